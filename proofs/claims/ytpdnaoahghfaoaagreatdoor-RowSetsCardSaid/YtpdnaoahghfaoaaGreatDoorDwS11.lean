/- The document's own stamps: which may be, which is newer. -/
import Derived.Test.YtpdnaoahghfaoaaGreatDoorDwS10
set_option linter.unusedSimpArgs false
set_option linter.unusedVariables false
namespace Go.Proofs.DwT
open Go Go.DM Go.Proofs.DeT
set_option maxRecDepth 100000
variable {orc : DOracle}

/-- The pieces of a path that begins with the mark. -/
def piecesR (s : ByteArray) : List ByteArray := if s.size = 1 then [] else AwT.cutP (s.data.toList.drop 1)
def pathR (s : ByteArray) : Bool := decide (s.data[0]? = some 47) && (piecesR s).all nameOk && decide ((piecesR s).length ≤ 4)
theorem cutP_small (l : List UInt8) : ∀ x ∈ AwT.cutP l, x.size ≤ l.length := by
  have key : ∀ (l : List UInt8) (p : List ByteArray × ByteArray) (B : Nat), (∀ x ∈ p.1, x.size ≤ B) → p.2.size + l.length ≤ B → ∀ x ∈ (l.foldl AwT.stepC p).1 ++ [(l.foldl AwT.stepC p).2], x.size ≤ B := by
    intro l
    induction l with
    | nil =>
      intro p B h1 h2 x hx
      rcases List.mem_append.1 hx with hx | hx
      · exact h1 x hx
      · simp at hx
        subst hx
        simpa using h2
    | cons b l ih =>
      intro p B h1 h2
      rw [List.foldl_cons]
      rw [List.length_cons] at h2
      unfold AwT.stepC
      split
      · refine ih _ B (fun x hx => ?_) ?_
        · rcases List.mem_append.1 hx with hx | hx
          · exact h1 x hx
          · simp at hx
            subst hx
            omega
        · show 0 + _ ≤ _
          omega
      · refine ih _ B h1 ?_
        rw [ByteArray.size_append]
        show _ + 1 + _ ≤ _
        omega
  exact key l ([], ⟨#[]⟩) l.length (by simp) (by show 0 + _ ≤ _; omega)
theorem refParse (s : ByteArray) (hs : s.size < 1000000) (S : Mem) : CallD Tryz.prog O 178 [.str s] S fun d S' => S' = S ∧ ∃ x e, d = .tup [x, .int .i64 e] ∧ ((e = 0) ↔ pathR s = true) := by
  refine CallD.e Tryz.func178 rfl Tryz.ntmps178 (by rfl) ?_
  by_cases h47 : s.data[0]? = some 47
  · by_cases h1 : s.size = 1
    · have e : cutD s = .tup [.nils, .bool true] := by rw [cutD, if_pos h47, if_pos h1]
      have hcut := fun S => refCut s hs S
      simp only [e] at hcut
      repeat' (first|refine Go.a rfl ?_|refine Go.rg ?_|refine GoR.nil ?_|refine Go.ret ?_|refine Go.b rfl ?_|(refine GoR.o (by rfl) (by rfl) ?_;(conv => arg 1;simp only [G,Z,Y,Gx,un_neg,cutD,decide_true,decide_false,simprocAttr,fb3,fb9,fb100]);show GoR ..)|(refine GoR.c c200 (by rfl) (by rfl) rfl ?_;(refine (hcut _).ret ?_))|refine Go.condB rfl (fun hc => ?_) (fun hc => ?_))
      refine Go.keep [(4, .nils), (6, .int .i64 ((0 : Nat) : Int))] (.cons .refl (.cons .refl (.nil))) ?_
      refine Go.loop ?_
      repeat' (first|refine Go.a rfl ?_|refine Go.rg ?_|refine GoR.nil ?_|refine Go.ret ?_|refine Go.b rfl ?_|(refine GoR.o (by rfl) (by rfl) ?_;(conv => arg 1;simp only [G,Z,Y,Gx,un_neg,cutD,decide_true,decide_false,simprocAttr,fb3,fb9,fb100]);show GoR ..)|refine Go.condB rfl (fun hc => ?_) (fun hc => ?_))
      refine ⟨(by first | exact .inl rfl | exact .inr rfl), fin ?_⟩
      rw [resD_two (fn := Tryz.f178) rfl]
      simp only [optThen_some,resultD_tmp,resultD_cell,G,Z,Y,Gx,un_neg,cutD,decide_true,decide_false,simprocAttr,fb3,fb9,fb100]
      exact ⟨_, [], by simp, .of_low (.tup' (.cons .nils (.cons (.int _ _) .nil))), _, _, rfl, ⟨fun _ => (by unfold pathR piecesR; rw [if_pos h1, decide_eq_true h47]; rfl), fun _ => rfl⟩⟩
    · generalize hl : AwT.cutP (s.data.toList.drop 1) = l
      have hll : l.length ≤ s.size + 1 := by
        rw [← hl, AwT.cutP, List.length_append]
        have := AwT.cutL_count (s.data.toList.drop 1)
        rw [List.length_drop] at this
        have e2 : s.data.toList.length = s.size := by simp
        rw [List.length_cons, List.length_nil]
        omega
      have hp : piecesR s = l := by rw [piecesR, if_neg h1, hl]
      have e : cutD s = .tup [.sl none 1 l.length (l.map .str), .bool true] := by rw [cutD, if_pos h47, if_neg h1, hl]
      have hcut := fun S => refCut s hs S
      simp only [e] at hcut
      repeat' (first|refine Go.a rfl ?_|refine Go.rg ?_|refine GoR.nil ?_|refine Go.ret ?_|refine Go.b rfl ?_|(refine GoR.o (by rfl) (by rfl) ?_;(conv => arg 1;simp only [G,Z,Y,Gx,un_neg,cutD,decide_true,decide_false,simprocAttr,fb3,fb9,fb100]);show GoR ..)|(refine GoR.c c200 (by rfl) (by rfl) rfl ?_;(refine (hcut _).ret ?_))|refine Go.condB rfl (fun hc => ?_) (fun hc => ?_))
      refine Go.keep [(4, .sl none 1 l.length (l.map .str)), (6, .int .i64 ((0 : Nat) : Int))] (.cons .refl (.cons .refl (.nil))) ?_
      refine Go.while (α := Nat) (fun i => l.length - i) (fun i => [(4, .sl none 1 l.length (l.map .str)), (6, .int .i64 (i : Int))]) (fun _ => S) (fun i => i ≤ l.length ∧ ∀ j (h : j < l.length), j < i → nameOk l[j] = true) ?_ 0 ⟨Nat.zero_le _, by simp⟩
      rintro i ⟨hi, hk⟩ next
      by_cases hil : i < l.length
      · have di : decide ((i : Int) < (l.length : Int)) = true := by simp; omega
        have hsz : l[i].size < 4611686018427387904 := by
          have := cutP_small (s.data.toList.drop 1) l[i] (by rw [hl]; exact List.getElem_mem _)
          rw [List.length_drop] at this
          have e2 : s.data.toList.length = s.size := by simp
          omega
        cases hn : nameOk l[i] with
        | true =>
          repeat' (first|refine Go.a rfl ?_|refine Go.rg ?_|refine GoR.nil ?_|refine Go.ret ?_|refine Go.b rfl ?_|(refine GoR.o (by rfl) (by rfl) ?_;(conv => arg 1;simp only [G,Z,Y,Gx,un_neg,cutD,decide_true,decide_false,simprocAttr,fb3,fb9,fb100,di, strsAt hil, wrap_succ (show i < 4611686018427387904 by omega), hn]);show GoR ..)|(refine GoR.c c34 (by rfl) (by rfl) rfl ?_;(refine (refName _ hsz _).ret ?_))|refine Go.condB rfl (fun hc => ?_) (fun hc => ?_))
          refine Go.lpN ?_
          refine Go.keep [(4, .sl none 1 l.length (l.map .str)), (6, .int .i64 ((i + 1 : Nat) : Int))] (.cons .refl (.cons .refl (.nil))) ?_
          refine next (i + 1) (by omega) ⟨hil, fun j hj hlt => ?_⟩
          rcases Nat.lt_or_ge j i with h | h
          · exact hk j hj h
          · obtain rfl : j = i := by omega
            exact hn
        | false =>
          clear next
          repeat' (first|refine Go.a rfl ?_|refine Go.rg ?_|refine GoR.nil ?_|refine Go.ret ?_|refine Go.b rfl ?_|(refine GoR.o (by rfl) (by rfl) ?_;(conv => arg 1;simp only [G,Z,Y,Gx,un_neg,cutD,decide_true,decide_false,simprocAttr,fb3,fb9,fb100,di, strsAt hil, hn]);show GoR ..)|(refine GoR.c c34 (by rfl) (by rfl) rfl ?_;(refine (refName _ hsz _).ret ?_))|refine Go.condB rfl (fun hc => ?_) (fun hc => ?_))
          refine ⟨(by first | exact .inl rfl | exact .inr rfl), fin ?_⟩
          rw [resD_two (fn := Tryz.f178) rfl]
          simp only [optThen_some,resultD_tmp,resultD_cell,G,Z,Y,Gx,un_neg,cutD,decide_true,decide_false,simprocAttr,fb3,fb9,fb100]
          refine ⟨_, [], by simp, .of_low (.tup' (.cons .nils (.cons (.int _ _) .nil))), _, _, rfl, ?_⟩
          have : l.all nameOk = false := List.all_eq_false.2 ⟨_, List.getElem_mem hil, by simp [hn]⟩
          simp [pathR, hp, this]
      · clear next
        have di : decide ((i : Int) < (l.length : Int)) = false := by simp; omega
        have hall : l.all nameOk = true := by
          rw [List.all_eq_true]
          intro x hx
          obtain ⟨j, hj, rfl⟩ := List.mem_iff_getElem.1 hx
          exact hk j hj (by omega)
        by_cases h4 : 4 < l.length
        · have d4 : decide (4 < (l.length : Int)) = true := by simp; omega
          repeat' (first|refine Go.a rfl ?_|refine Go.rg ?_|refine GoR.nil ?_|refine Go.ret ?_|refine Go.b rfl ?_|(refine GoR.o (by rfl) (by rfl) ?_;(conv => arg 1;simp only [G,Z,Y,Gx,un_neg,cutD,decide_true,decide_false,simprocAttr,fb3,fb9,fb100,di, d4]);show GoR ..)|refine Go.condB rfl (fun hc => ?_) (fun hc => ?_))
          refine ⟨(by first | exact .inl rfl | exact .inr rfl), fin ?_⟩
          rw [resD_two (fn := Tryz.f178) rfl]
          simp only [optThen_some,resultD_tmp,resultD_cell,G,Z,Y,Gx,un_neg,cutD,decide_true,decide_false,simprocAttr,fb3,fb9,fb100]
          refine ⟨_, [], by simp, .of_low (.tup' (.cons .nils (.cons (.int _ _) .nil))), _, _, rfl, ?_⟩
          simp [pathR, hp, hall]
          omega
        · have d4 : decide (4 < (l.length : Int)) = false := by simp; omega
          repeat' (first|refine Go.a rfl ?_|refine Go.rg ?_|refine GoR.nil ?_|refine Go.ret ?_|refine Go.b rfl ?_|(refine GoR.o (by rfl) (by rfl) ?_;(conv => arg 1;simp only [G,Z,Y,Gx,un_neg,cutD,decide_true,decide_false,simprocAttr,fb3,fb9,fb100,di, d4]);show GoR ..)|refine Go.condB rfl (fun hc => ?_) (fun hc => ?_))
          refine ⟨(by first | exact .inl rfl | exact .inr rfl), fin ?_⟩
          rw [resD_two (fn := Tryz.f178) rfl]
          simp only [optThen_some,resultD_tmp,resultD_cell,G,Z,Y,Gx,un_neg,cutD,decide_true,decide_false,simprocAttr,fb3,fb9,fb100]
          have hlow : LowL S.length (l.map D.str) := .of_mem (by simp; intros; constructor)
          refine ⟨_, [], by simp, .of_low (.tup' (.cons (.sl none 1 _ _ (fun id h => by cases h) hlow.get) (.cons (.int _ _) .nil))), _, _, rfl, ?_⟩
          simp [pathR, hp, hall, h47]
          omega
  · have e : cutD s = .tup [.nils, .bool false] := by rw [cutD, if_neg h47]
    have hcut := fun S => refCut s hs S
    simp only [e] at hcut
    repeat' (first|refine Go.a rfl ?_|refine Go.rg ?_|refine GoR.nil ?_|refine Go.ret ?_|refine Go.b rfl ?_|(refine GoR.o (by rfl) (by rfl) ?_;(conv => arg 1;simp only [G,Z,Y,Gx,un_neg,cutD,decide_true,decide_false,simprocAttr,fb3,fb9,fb100]);show GoR ..)|(refine GoR.c c200 (by rfl) (by rfl) rfl ?_;(refine (hcut _).ret ?_))|refine Go.condB rfl (fun hc => ?_) (fun hc => ?_))
    refine ⟨(by first | exact .inl rfl | exact .inr rfl), fin ?_⟩
    rw [resD_two (fn := Tryz.f178) rfl]
    simp only [optThen_some,resultD_tmp,resultD_cell,G,Z,Y,Gx,un_neg,cutD,decide_true,decide_false,simprocAttr,fb3,fb9,fb100]
    exact ⟨_, [], by simp, .of_low (.tup' (.cons .nils (.cons (.int _ _) .nil))), _, _, rfl, by simp [pathR, h47]⟩
theorem nodeR_eq (s : ByteArray) (hs : s ≠ ⟨#[47]⟩) : pathR s = pathOk s := by
  unfold pathR pathOk
  rw [hasB47]
  by_cases h47 : s.data[0]? = some 47
  · have h1 : s.size ≠ 1 := fun h => hs (one_slash h47 h)
    have hh : hasB s ⟨#[47]⟩ = true := by rw [hasB47, decide_eq_true h47]
    rw [piecesR, if_neg h1, pieces_cut, trimB47 hh]
  · rw [decide_eq_false h47]
    rfl
theorem root_not : pathOk ⟨#[47]⟩ = false := by decide +kernel
theorem refPath (s : ByteArray) (hs : s.size < 1000000) (S : Mem) : CallD Tryz.prog O 142 [.str s] S fun d S' => S' = S ∧ d = .bool (pathR s) := by
  refine CallD.e Tryz.func142 rfl Tryz.ntmps142 (by rfl) ?_
  repeat' (first|refine Go.a rfl ?_|refine Go.rg ?_|refine GoR.nil ?_|refine Go.ret ?_|refine Go.b rfl ?_|(refine GoR.o (by rfl) (by rfl) ?_;(conv => arg 1;simp only [G,Z,Y,Gx,un_neg,cutD,decide_true,decide_false,simprocAttr,fb3]);show GoR ..)|(refine GoR.c c178 (by rfl) (by rfl) rfl ?_;(refine (refParse s hs _).retE ?_; rintro _ ⟨x, e, rfl, he⟩))|refine Go.condB rfl (fun hc => ?_) (fun hc => ?_))
  refine ⟨(by first | exact .inl rfl | exact .inr rfl), fin ?_⟩
  rw [resD_tmp (fn := Tryz.f142) rfl]
  simp only [optThen_some,resultD_tmp,resultD_cell,G,Z,Y,Gx,un_neg,cutD,decide_true,decide_false,simprocAttr,fb3]
  refine ⟨_, [], by simp, .bool, ?_⟩
  rw [D.bool.injEq, Bool.eq_iff_iff, beq_iff_eq]
  exact he
theorem refNode (s : ByteArray) (hs : s.size < 1000000) (S : Mem) : CallD Tryz.prog O 109 [.str s] S fun d S' => S' = S ∧ d = .bool (pathOk s) := by
  refine CallD.e Tryz.func109 rfl Tryz.ntmps109 (by rfl) ?_
  cases hp : pathR s with
  | false =>
    repeat' (first|refine Go.a rfl ?_|refine Go.rg ?_|refine GoR.nil ?_|refine Go.ret ?_|refine Go.b rfl ?_|(refine GoR.o (by rfl) (by rfl) ?_;(conv => arg 1;simp only [G,Z,Y,Gx,un_neg,cutD,decide_true,decide_false,simprocAttr,fb9,hp]);show GoR ..)|(refine GoR.c c142 (by rfl) (by rfl) rfl ?_;(refine (refPath s hs _).ret ?_))|refine GoR.s (by rfl) rfl rfl ?_|(refine GoR.splitG rfl (fun hc => ?_) (fun hc => ?_) <;> simp only [hc])|refine Go.condB rfl (fun hc => ?_) (fun hc => ?_))
    refine ⟨(by first | exact .inl rfl | exact .inr rfl), fin ?_⟩
    rw [resD_tmp (fn := Tryz.f109) rfl]
    simp only [optThen_some,resultD_tmp,resultD_cell,G,Z,Y,Gx,un_neg,cutD,decide_true,decide_false,simprocAttr,fb9]
    refine ⟨_, [], by simp, .bool, ?_⟩
    by_cases h : s = ⟨#[47]⟩
    · rw [h, root_not]
    · rw [← nodeR_eq s h, hp]
  | true =>
    repeat' (first|refine Go.a rfl ?_|refine Go.rg ?_|refine GoR.nil ?_|refine Go.ret ?_|refine Go.b rfl ?_|(refine GoR.o (by rfl) (by rfl) ?_;(conv => arg 1;simp only [G,Z,Y,Gx,un_neg,cutD,decide_true,decide_false,simprocAttr,fb9,hp]);show GoR ..)|(refine GoR.c c142 (by rfl) (by rfl) rfl ?_;(refine (refPath s hs _).ret ?_))|refine GoR.s (by rfl) rfl rfl ?_|(refine GoR.splitG rfl (fun hc => ?_) (fun hc => ?_) <;> simp only [hc])|refine Go.condB rfl (fun hc => ?_) (fun hc => ?_))
    refine ⟨(by first | exact .inl rfl | exact .inr rfl), fin ?_⟩
    rw [resD_tmp (fn := Tryz.f109) rfl]
    simp only [optThen_some,resultD_tmp,resultD_cell,G,Z,Y,Gx,un_neg,cutD,decide_true,decide_false,simprocAttr,fb9]
    refine ⟨_, [], by simp, .bool, ?_⟩
    by_cases h : s = ⟨#[47]⟩
    · simp [h, root_not]
    · rw [← nodeR_eq s h, hp]
      simp [h]
theorem refCheckStamp (s : St) (hs : s.org.size < 1000000) (S : Mem) : CallD Tryz.prog O 58 [.agg s.c] S fun d S' => S' = S ∧ d = .int .i64 (chk s) := by
  obtain ⟨a, b, c, o⟩ := s
  have e1 := refIn (orc := O) a
  have e2 := refIn (orc := O) b
  have e3 := refIn (orc := O) c
  simp only [St.c, chk]
  refine CallD.e Tryz.func58 rfl Tryz.ntmps58 (by rfl) ?_
  cases h1 : inOk a <;> cases h2 : inOk b <;> cases h3 : inOk c <;> cases h4 : pathOk o
  all_goals
    repeat' (first|refine Go.a rfl ?_|refine Go.rg ?_|refine GoR.nil ?_|refine Go.ret ?_|refine Go.b rfl ?_|(refine GoR.o (by rfl) (by rfl) ?_;(conv => arg 1;simp only [G,Z,Y,Gx,un_neg,cutD,decide_true,decide_false,simprocAttr,fb2,fb9,fb30,h1, h2, h3, h4]);show GoR ..)|(refine GoR.c c108 (by rfl) (by rfl) rfl ?_;(first | (refine (e1 _).ret ?_) | (refine (e2 _).ret ?_) | (refine (e3 _).ret ?_)))|(refine GoR.c c109 (by rfl) (by rfl) rfl ?_;(refine (refNode _ hs _).ret ?_))|refine GoR.s (by rfl) rfl rfl ?_|(refine GoR.splitG rfl (fun hc => ?_) (fun hc => ?_) <;> simp only [hc])|refine Go.condB rfl (fun hc => ?_) (fun hc => ?_))
    refine ⟨(by first | exact .inl rfl | exact .inr rfl), fin ?_⟩
    rw [resD_tmp (fn := Tryz.f58) rfl]
    simp only [optThen_some,resultD_tmp,resultD_cell,G,Z,Y,Gx,un_neg,cutD,decide_true,decide_false,simprocAttr,fb2,fb9,fb30]
    exact ⟨_, _, rfl, .int, by simp⟩
theorem refCompare (a b : St) (S : Mem) : CallD Tryz.prog orc 69 [.agg a.c, .agg b.c] S fun d S' => S' = S ∧ d = .int .i64 (cmpSt a b) := by
  obtain ⟨a1, a2, a3, a4⟩ := a
  obtain ⟨b1, b2, b3, b4⟩ := b
  simp only [St.c, cmpSt]
  refine CallD.e Tryz.func69 rfl Tryz.ntmps69 (by rfl) ?_
  repeat' (first|refine Go.a rfl ?_|refine Go.rg ?_|refine GoR.nil ?_|refine Go.ret ?_|refine Go.b rfl ?_|refine Go.rgS dmx (by decide) ?_|refine Go.rgD [6, 8, 11, 13, 16, 18] (fun H => objAt H S.length = some [.int .i64 a1, .int .i64 a2, .int .i64 a3, .str a4] ∧ objAt H (S.length + 1) = some [.int .i64 b1, .int .i64 b2, .int .i64 b3, .str b4]) dmx (by decide) 19 (by decide) (by (simp only [List.append_assoc, List.cons_append, List.nil_append, objAt_app, objAt_app0, objAt_succ, objAt_zero, and_self])) ?_|refine GoW.nil rfl ?_|((first|refine GoR.o (by rfl) (by rfl) ?_|refine GoW.o (by rfl) (by rfl) ?_|refine GoW.rd (by rfl) (by rfl) ?_);(conv => arg 1;simp only [G,Z,Y,Gx,un_neg,cutD,decide_true,decide_false,simprocAttr,fb2,fb3,fb9,fb30,fb178]);first|show GoR ..|(show _ ∧ GoW ..;refine ⟨by (first|exact fun h => absurd h (by decide)|(intro _;(simp only [List.append_assoc, List.cons_append, List.nil_append, objAt_app, objAt_app0, objAt_succ, objAt_zero, and_self]))),?_⟩)|(show _ ∧ _ ∧ _ ∧ GoW ..;refine ⟨rfl,by (simp only [List.append_assoc, List.cons_append, List.nil_append, objAt_app, objAt_app0, objAt_succ, objAt_zero, and_self]),(fun H hI=>by (try dsimp only at hI);simp only [G,Z,Y,Gx,un_neg,cutD,decide_true,decide_false,simprocAttr,fb2,fb3,fb9,fb30,fb178,hI]),?_⟩))|(refine GoW.c c80 (by rfl) (by rfl) rfl ?_;(refine (refOrder _ _ _).ret ?_);refine ⟨by (first|exact fun h => absurd h (by decide)|(intro _;(simp only [List.append_assoc, List.cons_append, List.nil_append, objAt_app, objAt_app0, objAt_succ, objAt_zero, and_self]))),?_⟩)|(refine GoR.c c80 (by rfl) (by rfl) rfl ?_;(refine (refOrder _ _ _).ret ?_))|(refine GoW.c c81 (by rfl) (by rfl) rfl ?_;(refine (refOrderText _ _ _).ret ?_);refine ⟨by (first|exact fun h => absurd h (by decide)|(intro _;(simp only [List.append_assoc, List.cons_append, List.nil_append, objAt_app, objAt_app0, objAt_succ, objAt_zero, and_self]))),?_⟩)|(refine GoR.c c81 (by rfl) (by rfl) rfl ?_;(refine (refOrderText _ _ _).ret ?_))|refine Go.condB rfl (fun hc => ?_) (fun hc => ?_))
  generalize cmpI a1 b1 = x1
  generalize cmpI a2 b2 = x2
  generalize cmpI a3 b3 = x3
  generalize cmpB a4 b4 = x4
  generalize hE : S ++ [Ob.obj [D.int .i64 a1, .int .i64 a2, .int .i64 a3, .str a4], Ob.obj [.int .i64 b1, .int .i64 b2, .int .i64 b3, .str b4], Ob.own] = T
  have hlen : T.length = S.length + 3 := by rw [← hE]; simp
  generalize hl : [x1, x2, x3, x4] = l
  have hl4 : l.length = 4 := by rw [← hl]; rfl
  have hints : intsD l = [.int .i64 x1, .int .i64 x2, .int .i64 x3, .int .i64 x4] := by rw [← hl]; rfl
  refine Go.keep [(5, .sl (some (S.length + 2)) 1 4 (intsD l)), (6, .int .i64 ((0 : Nat) : Int))] (.cons (by rw [hints]; exact .refl) (.cons .refl .nil)) ?_
  refine Go.while (α := Nat) (fun i => 4 - i) (fun i => [(5, .sl (some (S.length + 2)) 1 4 (intsD l)), (6, .int .i64 (i : Int))]) (fun _ => T) (fun i => i ≤ 4 ∧ ∀ x ∈ l.take i, x = 0) ?_ 0 ⟨Nat.zero_le _, by simp⟩
  rintro i ⟨hi, hz⟩ next
  by_cases h1 : i < 4
  · have h2 : i < l.length := by omega
    have di : decide ((i : Int) < 4) = true := by simp; omega
    have hc4 : (0 ≤ (i : Int) ∧ (i : Int) < ((4 : Nat) : Int)) = True := by simp; omega
    have hc4' : (0 ≤ (i : Int) ∧ (i : Int) < (4 : Int)) = True := by simp; omega
    have hx := (intsAt h2).2
    cases hn : (l[i] != 0) with
    | true =>
      clear next
      repeat' (first|refine Go.a rfl ?_|refine Go.rg ?_|refine GoR.nil ?_|refine Go.ret ?_|refine Go.b rfl ?_|refine Go.rgS dmx (by decide) ?_|refine Go.rgD [6, 8, 11, 13, 16, 18] (fun _ => True) dmx (by decide) 19 (by decide) (by trivial) ?_|refine GoW.nil rfl ?_|((first|refine GoR.o (by rfl) (by rfl) ?_|refine GoW.o (by rfl) (by rfl) ?_|refine GoW.rd (by rfl) (by rfl) ?_);(conv => arg 1;simp only [G,Z,Y,Gx,un_neg,cutD,decide_true,decide_false,simprocAttr,fb2,fb3,fb9,fb30,fb178,di, hc4, hc4', hx, hn]);first|show GoR ..|(show _ ∧ GoW ..;refine ⟨by exact fun _ => trivial,?_⟩)|(show _ ∧ _ ∧ _ ∧ GoW ..;refine ⟨rfl,by trivial,(fun H _=>by simp only [G,Z,Y,Gx,un_neg,cutD,decide_true,decide_false,simprocAttr,fb2,fb3,fb9,fb30,fb178,di, hc4, hc4', hx, hn]),?_⟩))|refine Go.condB rfl (fun hc => ?_) (fun hc => ?_))
      refine ⟨(by first | exact .inl rfl | exact .inr rfl), fin ?_⟩
      rw [resD_tmp (fn := Tryz.f69) rfl]
      simp only [optThen_some,resultD_tmp,resultD_cell,G,Z,Y,Gx,un_neg,cutD,decide_true,decide_false,simprocAttr,fb2,fb3,fb9,fb30,fb178]
      refine ⟨_, _, hE.symm, .int, ?_⟩
      have hne : l[i] ≠ 0 := by simpa using hn
      have : orI l = orI (l.take i ++ l.drop i) := by rw [List.take_append_drop]
      rw [this, orI_drop hz, List.drop_eq_getElem_cons h2]
      simp [orI, hne]
    | false =>
      repeat' (first|refine Go.a rfl ?_|refine Go.rg ?_|refine GoR.nil ?_|refine Go.ret ?_|refine Go.b rfl ?_|refine Go.rgS dmx (by decide) ?_|refine Go.rgD [6, 8, 11, 13, 16, 18] (fun _ => True) dmx (by decide) 19 (by decide) (by trivial) ?_|refine GoW.nil rfl ?_|((first|refine GoR.o (by rfl) (by rfl) ?_|refine GoW.o (by rfl) (by rfl) ?_|refine GoW.rd (by rfl) (by rfl) ?_);(conv => arg 1;simp only [G,Z,Y,Gx,un_neg,cutD,decide_true,decide_false,simprocAttr,fb2,fb3,fb9,fb30,fb178,di, hc4, hc4', hx, hn, wrap_succ (show i < 4611686018427387904 by omega)]);first|show GoR ..|(show _ ∧ GoW ..;refine ⟨by exact fun _ => trivial,?_⟩)|(show _ ∧ _ ∧ _ ∧ GoW ..;refine ⟨rfl,by trivial,(fun H _=>by simp only [G,Z,Y,Gx,un_neg,cutD,decide_true,decide_false,simprocAttr,fb2,fb3,fb9,fb30,fb178,di, hc4, hc4', hx, hn, wrap_succ (show i < 4611686018427387904 by omega)]),?_⟩))|refine Go.condB rfl (fun hc => ?_) (fun hc => ?_))
      refine Go.lpN ?_
      refine Go.keep [(5, .sl (some (S.length + 2)) 1 4 (intsD l)), (6, .int .i64 ((i + 1 : Nat) : Int))] (.cons .refl (.cons .refl (.nil))) ?_
      refine next (i + 1) (by omega) ⟨h1, fun x hx => ?_⟩
      clear next
      rw [List.take_succ_eq_append_getElem h2, List.mem_append] at hx
      rcases hx with hx | hx
      · exact hz x hx
      · have : l[i] = 0 := by simpa using hn
        simp at hx
        exact hx.trans this
  · clear next
    have di : decide ((i : Int) < 4) = false := by simp; omega
    repeat' (first|refine Go.a rfl ?_|refine Go.rg ?_|refine GoR.nil ?_|refine Go.ret ?_|refine Go.b rfl ?_|refine Go.rgS dmx (by decide) ?_|refine Go.rgD [6, 8, 11, 13, 16, 18] (fun _ => True) dmx (by decide) 19 (by decide) (by trivial) ?_|refine GoW.nil rfl ?_|((first|refine GoR.o (by rfl) (by rfl) ?_|refine GoW.o (by rfl) (by rfl) ?_|refine GoW.rd (by rfl) (by rfl) ?_);(conv => arg 1;simp only [G,Z,Y,Gx,un_neg,cutD,decide_true,decide_false,simprocAttr,fb2,fb3,fb9,fb30,fb178,di]);first|show GoR ..|(show _ ∧ GoW ..;refine ⟨by exact fun _ => trivial,?_⟩)|(show _ ∧ _ ∧ _ ∧ GoW ..;refine ⟨rfl,by trivial,(fun H _=>by simp only [G,Z,Y,Gx,un_neg,cutD,decide_true,decide_false,simprocAttr,fb2,fb3,fb9,fb30,fb178,di]),?_⟩))|refine Go.condB rfl (fun hc => ?_) (fun hc => ?_))
    refine ⟨(by first | exact .inl rfl | exact .inr rfl), fin ?_⟩
    rw [resD_tmp (fn := Tryz.f69) rfl]
    simp only [optThen_some,resultD_tmp,resultD_cell,G,Z,Y,Gx,un_neg,cutD,decide_true,decide_false,simprocAttr,fb2,fb3,fb9,fb30,fb178]
    refine ⟨_, _, hE.symm, .int, ?_⟩
    have : i = l.length := by omega
    subst this
    rw [List.take_length] at hz
    have := orI_drop hz (m := [])
    rw [List.append_nil] at this
    simp [this, orI]
end Go.Proofs.DwT
