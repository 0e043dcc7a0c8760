/- Which of two values is less: the program's word, the document's. -/
import Derived.Test.YtlllhmenekibjaaGreatDoorDtS20x
set_option linter.unusedSimpArgs false
set_option linter.unusedVariables false
namespace Go.Proofs.DtT
open Go Go.DM Go.Proofs.DtF
set_option maxRecDepth 100000
variable {orc : DOracle}

end Go.Proofs.DtT

/- A value in words: the program's, the document's. -/
namespace Go.Proofs.DtT
open Go Go.DM Go.Proofs.DtF
set_option maxRecDepth 100000
variable {orc : DOracle}

end Go.Proofs.DtT

/- Whether a row may be: the program's word, the document's. -/
namespace Go.Proofs.DtT
open Go Go.DM Go.Proofs.DtF
set_option maxRecDepth 100000
variable {orc : DOracle}

theorem rowName (s : ByteArray) (S : Mem) : CallD Tryz.prog orc 90 [.str s] S fun d S' => S' = S ∧ d = .bool (nameOk s) := by
  refine CallD.e Tryz.func90 rfl Tryz.ntmps90 (by rfl) ?_
  by_cases h0 : s.size = 0
  · have hs : s = ⟨#[]⟩ := by
      obtain ⟨d⟩ := s
      simp only [ByteArray.size, Array.size_eq_zero_iff] at h0
      rw [h0]
    repeat' (first|refine Go.a rfl ?_|refine Go.rg ?_|refine GoR.nil ?_|refine Go.ret ?_|refine Go.b rfl ?_|(refine GoR.o (by rfl) (by rfl) ?_;(conv => arg 1;simp only [G,Z,Y,Gx,un_neg,cutD,decide_true,decide_false,simprocAttr,fb3,fb5,fb9,hs]);show GoR ..)|refine GoR.s (by rfl) rfl rfl ?_|(refine GoR.splitG rfl (fun hc => ?_) (fun hc => ?_) <;> simp only [hc])|refine Go.condB rfl (fun hc => ?_) (fun hc => ?_))
    refine ⟨(by first | exact .inl rfl | exact .inr rfl), fin ?_⟩
    rw [resD_tmp (fn := Tryz.f90) rfl]
    simp only [optThen_some,resultD_tmp,resultD_cell,G,Z,Y,Gx,un_neg,cutD,decide_true,decide_false,simprocAttr,fb3,fb5,fb9]
    exact ⟨_, [], by simp, .bool, by rw [hs]; rfl⟩
  · have h1 : 0 < s.size := by omega
    have hne : decide (s = (⟨#[]⟩ : ByteArray)) = false := by
      rw [decide_eq_false_iff_not]
      rintro rfl
      exact h0 rfl
    repeat' (first|refine Go.a rfl ?_|refine Go.rg ?_|refine GoR.nil ?_|refine Go.ret ?_|refine Go.b rfl ?_|(refine GoR.o (by rfl) (by rfl) ?_;(conv => arg 1;simp only [G,Z,Y,Gx,un_neg,cutD,decide_true,decide_false,simprocAttr,fb3,fb5,fb9,hne, indexStr_zero h1]);show GoR ..)|refine GoR.s (by rfl) rfl rfl ?_|(refine GoR.splitG rfl (fun hc => ?_) (fun hc => ?_) <;> simp only [hc])|refine Go.condB rfl (fun hc => ?_) (fun hc => ?_))
    · refine ⟨(by first | exact .inl rfl | exact .inr rfl), fin ?_⟩
      rw [resD_tmp (fn := Tryz.f90) rfl]
      simp only [optThen_some,resultD_tmp,resultD_cell,G,Z,Y,Gx,un_neg,cutD,decide_true,decide_false,simprocAttr,fb3,fb5,fb9]
      refine ⟨_, [], by simp, .bool, ?_⟩
      rw [nameOk_eq h1, decide_eq_false (by simp at hc; omega), Bool.false_and, Bool.false_and]
    · refine ⟨(by first | exact .inl rfl | exact .inr rfl), fin ?_⟩
      rw [resD_tmp (fn := Tryz.f90) rfl]
      simp only [optThen_some,resultD_tmp,resultD_cell,G,Z,Y,Gx,un_neg,cutD,decide_true,decide_false,simprocAttr,fb3,fb5,fb9]
      refine ⟨_, [], by simp, .bool, ?_⟩
      have : lowB (s.data[0]'h1) = false := by simp [lowB] at *; omega
      rw [nameOk_eq h1, this, Bool.and_false, Bool.false_and]
    · rename_i hc8
      have h8 : s.size ≤ 8 := by simp at hc8; omega
      have hlo : 97 ≤ (s.data[0]'h1).toNat := by simp at hc; omega
      refine Go.keep [(0, .str s), (17, .int .i64 (s.size : Int)), (18, .int .i64 ((0 : Nat) : Int))] (.cons .refl (.cons .refl (.cons .refl (.nil)))) ?_
      refine Go.while (α := Nat) (fun i => s.size - i) (fun i => [(0, .str s), (17, .int .i64 (s.size : Int)), (18, .int .i64 (i : Int))]) (fun _ => S) (fun i => i ≤ s.size ∧ ∀ j (h : j < s.size), j < i → (lowB (s.data[j]'h) || digB (s.data[j]'h)) = true) ?_ 0 ⟨Nat.zero_le _, by simp⟩
      rintro i ⟨hi, hk⟩ next
      clear hc hc8
      repeat' (first|refine Go.a rfl ?_|refine Go.rg ?_|refine GoR.nil ?_|refine Go.ret ?_|refine Go.b rfl ?_|(refine GoR.o (by rfl) (by rfl) ?_;(conv => arg 1;simp only [G,Z,Y,Gx,un_neg,cutD,decide_true,decide_false,simprocAttr,fb3,fb5,fb9]);show GoR ..)|refine GoR.s (by rfl) rfl rfl ?_|(refine GoR.splitG rfl (fun hc => ?_) (fun hc => ?_) <;> simp only [hc])|refine Go.condB rfl (fun hc => ?_) (fun hc => ?_))
      · have h2 : i < s.size := by simpa using hc
        repeat' (first|refine Go.a rfl ?_|refine Go.rg ?_|refine GoR.nil ?_|refine Go.ret ?_|refine Go.b rfl ?_|(refine GoR.o (by rfl) (by rfl) ?_;(conv => arg 1;simp only [G,Z,Y,Gx,un_neg,cutD,decide_true,decide_false,simprocAttr,fb3,fb5,fb9,indexStr_cast h2, wrap_succ (show i < 4611686018427387904 by omega)]);show GoR ..)|refine GoR.s (by rfl) rfl rfl ?_|(refine GoR.splitG rfl (fun hc => ?_) (fun hc => ?_) <;> simp only [hc])|refine Go.condB rfl (fun hc => ?_) (fun hc => ?_))
        all_goals first
          | (refine Go.lpN ?_
             refine Go.keep [(0, .str s), (17, .int .i64 (s.size : Int)), (18, .int .i64 ((i + 1 : Nat) : Int))] (.cons .refl (.cons .refl (.cons .refl (.nil)))) ?_
             refine next (i + 1) (by omega) ⟨h2, fun j hj hlt => ?_⟩
             clear next
             rcases Nat.lt_or_ge j i with h | h
             · exact hk j hj h
             · obtain rfl : j = i := by omega
               clear hk
               simp [lowB, digB] at *
               omega)
          | (clear next
             refine ⟨(by first | exact .inl rfl | exact .inr rfl), fin ?_⟩
             rw [resD_tmp (fn := Tryz.f90) rfl]
             simp only [optThen_some,resultD_tmp,resultD_cell,G,Z,Y,Gx,un_neg,cutD,decide_true,decide_false,simprocAttr,fb3,fb5,fb9]
             refine ⟨_, [], by simp, .bool, ?_⟩
             have hp : (fun b => lowB b || digB b) (s.data[i]'h2) = false := by
               clear hk
               simp [lowB, digB] at *
               omega
             simp only [nameOk, bytes_false (p := fun b => lowB b || digB b) h2 hp, Bool.and_false])
      · clear next
        refine ⟨(by first | exact .inl rfl | exact .inr rfl), fin ?_⟩
        rw [resD_tmp (fn := Tryz.f90) rfl]
        simp only [optThen_some,resultD_tmp,resultD_cell,G,Z,Y,Gx,un_neg,cutD,decide_true,decide_false,simprocAttr,fb3,fb5,fb9]
        refine ⟨_, [], by simp, .bool, ?_⟩
        have hall := bytes_true (p := fun b => lowB b || digB b) fun j hj => hk j hj (by simp at hc; omega)
        have h00 := hk 0 h1 (by simp at hc; omega)
        have : lowB (s.data[0]'h1) = true := by
          simp only [lowB, digB, Bool.or_eq_true, Bool.and_eq_true, decide_eq_true_eq] at h00 ⊢
          omega
        rw [nameOk_eq h1, hall, this, decide_eq_true h8]
        rfl
def attE (p : Option ByteArray) (a : Att) : Int := if nameOk a.n = false then 5 else if p.any (fun q => !ltB q a.n) = true then 6 else chkV a.v
def attsE (p : Option ByteArray) : List Att → Int
  | [] => 0
  | a :: l => if attE p a = 0 then attsE (some a.n) l else attE p a
def prevN (l : List Att) (i : Nat) : Option ByteArray := if i = 0 then none else (l[i - 1]?).map Att.n
theorem attsE_step {l : List Att} {i : Nat} (h : i < l.length) : attsE (prevN l i) (l.drop i) = if attE (prevN l i) l[i] = 0 then attsE (prevN l (i + 1)) (l.drop (i + 1)) else attE (prevN l i) l[i] := by
  have e : prevN l (i + 1) = some l[i].n := by simp [prevN, h]
  rw [List.drop_eq_getElem_cons h, attsE, e]
theorem prevN_pos {l : List Att} {i : Nat} (h : i < l.length) (h0 : 0 < i) : prevN l i = some (l[i - 1]'(by omega)).n := by
  rw [prevN, if_neg (by omega), List.getElem?_eq_getElem (by omega)]
  rfl
def attrsE (l : List Att) : Int := if 32 < l.length then 4 else attsE none l
theorem rowAttrs (l : List Att) (hl : ∀ a ∈ l, a.v.s.size < 1000000) (S : Mem) : CallD Tryz.prog orc 92 [.sl none 5 l.length (attsC l)] S fun d S' => S' = S ∧ d = .int .i64 (attrsE l) := by
  refine CallD.e Tryz.func92 rfl Tryz.ntmps92 (by rfl) ?_
  by_cases h32 : 32 < l.length
  · repeat' (first|refine Go.a rfl ?_|refine Go.rg ?_|refine GoR.nil ?_|refine Go.ret ?_|refine Go.b rfl ?_|refine Go.rgS dmx (by decide) ?_|(refine GoR.o (by rfl) (by rfl) ?_;(conv => arg 1;simp only [G,Z,Y,Gx,un_neg,cutD,decide_true,decide_false,simprocAttr,fb2,fb3,fb9,fb25,fb33,fb116,fb139,fb141,show (decide (32 < (l.length : Int))) = true by simp; omega]);show GoR ..)|refine GoR.s (by rfl) rfl rfl ?_|(refine GoR.splitG rfl (fun hc => ?_) (fun hc => ?_) <;> simp only [hc])|refine Go.condB rfl (fun hc => ?_) (fun hc => ?_))
    refine ⟨(by first | exact .inl rfl | exact .inr rfl), fin ?_⟩
    rw [resD_tmp (fn := Tryz.f92) rfl]
    simp only [optThen_some,resultD_tmp,resultD_cell,G,Z,Y,Gx,un_neg,cutD,decide_true,decide_false,simprocAttr,fb2,fb3,fb9,fb25,fb33,fb116,fb139,fb141]
    exact ⟨_, [], by simp, .int, by rw [attrsE, if_pos h32]⟩
  rw [attrsE, if_neg h32]
  repeat' (first|refine Go.a rfl ?_|refine Go.rg ?_|refine GoR.nil ?_|refine Go.ret ?_|refine Go.b rfl ?_|refine Go.rgS dmx (by decide) ?_|(refine GoR.o (by rfl) (by rfl) ?_;(conv => arg 1;simp only [G,Z,Y,Gx,un_neg,cutD,decide_true,decide_false,simprocAttr,fb2,fb3,fb9,fb25,fb33,fb116,fb139,fb141,show (decide (32 < (l.length : Int))) = false by simp; omega]);show GoR ..)|refine GoR.s (by rfl) rfl rfl ?_|(refine GoR.splitG rfl (fun hc => ?_) (fun hc => ?_) <;> simp only [hc])|refine Go.condB rfl (fun hc => ?_) (fun hc => ?_))
  refine Go.keep [(0, .sl none 5 l.length (attsC l)), (9, .sl none 5 l.length (attsC l)), (10, .int .i64 (l.length : Int)), (11, .int .i64 ((0 : Nat) : Int))] (.cons .refl (.cons .refl (.cons .refl (.cons .refl (.nil))))) ?_
  refine Go.while (α := Nat × Mem) (fun x => l.length - x.1) (fun x => [(0, .sl none 5 l.length (attsC l)), (9, .sl none 5 l.length (attsC l)), (10, .int .i64 (l.length : Int)), (11, .int .i64 (x.1 : Int))]) (fun x => x.2)
    (fun x => x.1 ≤ l.length ∧ attsE none l = attsE (prevN l x.1) (l.drop x.1) ∧ Grown S.length S x.2) ?_ (0, S) ⟨Nat.zero_le _, rfl, .refl⟩
  rintro ⟨i, S1⟩ ⟨hi, hk, hg⟩ next
  dsimp only at hi hk hg next
  by_cases h1 : i < l.length
  · have hsz := hl l[i] (List.getElem_mem _)
    have hv := fun S => valCheck (orc := orc) l[i].v hsz S
    rw [attsE_step h1] at hk
    have dl : decide ((i : Int) < (l.length : Int)) = true := by simp; omega
    have hgE : Grown S.length S (S1 ++ [Ob.obj l[i].c]) := hg.trans Grown.app
    obtain ⟨Eg, hEg⟩ := hgE.pre [] S rfl (by simp)
    simp only [Val.c, Att.c] at hv hEg
    have at1 := attsAt h1
    simp only [Val.c, Att.c] at at1
    cases hn : nameOk l[i].n with
    | false =>
      clear next
      have he : attE (prevN l i) l[i] = 5 := by rw [attE, if_pos hn]
      repeat' (first|refine Go.a rfl ?_|refine Go.rg ?_|refine GoR.nil ?_|refine Go.ret ?_|refine Go.b rfl ?_|refine Go.rgS dmx (by decide) ?_|(refine GoR.o (by rfl) (by rfl) ?_;(conv => arg 1;simp only [G,Z,Y,Gx,un_neg,cutD,decide_true,decide_false,simprocAttr,fb2,fb3,fb9,fb25,fb33,fb116,fb139,fb141,dl, at1, hn]);show GoR ..)|(refine GoR.c c90 (by rfl) (by rfl) rfl ?_;(refine (rowName _ _).ret ?_))|refine GoR.s (by rfl) rfl rfl ?_|(refine GoR.splitG rfl (fun hc => ?_) (fun hc => ?_) <;> simp only [hc])|refine Go.condB rfl (fun hc => ?_) (fun hc => ?_))
      refine ⟨(by first | exact .inl rfl | exact .inr rfl), fin ?_⟩
      rw [resD_tmp (fn := Tryz.f92) rfl]
      simp only [optThen_some,resultD_tmp,resultD_cell,G,Z,Y,Gx,un_neg,cutD,decide_true,decide_false,simprocAttr,fb2,fb3,fb9,fb25,fb33,fb116,fb139,fb141]
      exact ⟨_, Eg, hEg, .int, by rw [hk, he]; rfl⟩
    | true =>
      by_cases h0 : i = 0
      · have hp : prevN l i = none := if_pos h0
        have he : attE (prevN l i) l[i] = chkV l[i].v := by rw [attE, if_neg (by rw [hn]; decide), hp]; rfl
        have d0 : decide (0 < (i : Int)) = false := by simp; omega
        rw [he] at hk
        by_cases hc0 : chkV l[i].v = 0
        · rw [if_pos hc0] at hk
          repeat' (first|refine Go.a rfl ?_|refine Go.rg ?_|refine GoR.nil ?_|refine Go.ret ?_|refine Go.b rfl ?_|refine Go.rgS dmx (by decide) ?_|(refine GoR.o (by rfl) (by rfl) ?_;(conv => arg 1;simp only [G,Z,Y,Gx,un_neg,cutD,decide_true,decide_false,simprocAttr,fb2,fb3,fb9,fb25,fb33,fb116,fb139,fb141,dl, at1, hn, d0, hc0, wrap_succ (show i < 4611686018427387904 by omega)]);show GoR ..)|(refine GoR.c c90 (by rfl) (by rfl) rfl ?_;(refine (rowName _ _).ret ?_))|(refine GoR.c c118 (by rfl) (by rfl) rfl ?_;(refine (hv _).ret ?_))|refine GoR.s (by rfl) rfl rfl ?_|(refine GoR.splitG rfl (fun hc => ?_) (fun hc => ?_) <;> simp only [hc])|refine Go.condB rfl (fun hc => ?_) (fun hc => ?_))
          refine Go.lpN ?_
          refine Go.keep [(0, .sl none 5 l.length (attsC l)), (9, .sl none 5 l.length (attsC l)), (10, .int .i64 (l.length : Int)), (11, .int .i64 ((i + 1 : Nat) : Int))] (.cons .refl (.cons .refl (.cons .refl (.cons .refl (.nil))))) ?_
          exact next (i + 1, _) (by dsimp only; omega) ⟨h1, hk, hg.trans Grown.app⟩
        · clear next
          rw [if_neg hc0] at hk
          repeat' (first|refine Go.a rfl ?_|refine Go.rg ?_|refine GoR.nil ?_|refine Go.ret ?_|refine Go.b rfl ?_|refine Go.rgS dmx (by decide) ?_|(refine GoR.o (by rfl) (by rfl) ?_;(conv => arg 1;simp only [G,Z,Y,Gx,un_neg,cutD,decide_true,decide_false,simprocAttr,fb2,fb3,fb9,fb25,fb33,fb116,fb139,fb141,dl, at1, hn, d0, show (chkV l[i].v != 0) = true by simpa using hc0]);show GoR ..)|(refine GoR.c c90 (by rfl) (by rfl) rfl ?_;(refine (rowName _ _).ret ?_))|(refine GoR.c c118 (by rfl) (by rfl) rfl ?_;(refine (hv _).ret ?_))|refine GoR.s (by rfl) rfl rfl ?_|(refine GoR.splitG rfl (fun hc => ?_) (fun hc => ?_) <;> simp only [hc])|refine Go.condB rfl (fun hc => ?_) (fun hc => ?_))
          refine ⟨(by first | exact .inl rfl | exact .inr rfl), fin ?_⟩
          rw [resD_tmp (fn := Tryz.f92) rfl]
          simp only [optThen_some,resultD_tmp,resultD_cell,G,Z,Y,Gx,un_neg,cutD,decide_true,decide_false,simprocAttr,fb2,fb3,fb9,fb25,fb33,fb116,fb139,fb141]
          exact ⟨_, Eg, hEg, .int, by rw [hk]⟩
      · have hp := prevN_pos h1 (show 0 < i by omega)
        have d0 : decide (0 < (i : Int)) = true := by simp; omega
        have at0 := attsAt (l := l) (i := i - 1) (by omega)
        cases hb : ltB (l[i - 1]'(by omega)).n l[i].n with
        | false =>
          clear next
          have hbl : Op.bytesLess (l[i - 1]'(by omega)).n.toList l[i].n.toList = false := hb
          have he : attE (prevN l i) l[i] = 6 := by rw [attE, if_neg (by rw [hn]; decide), hp, if_pos (by simp [hb])]
          repeat' (first|refine Go.a rfl ?_|refine Go.rg ?_|refine GoR.nil ?_|refine Go.ret ?_|refine Go.b rfl ?_|refine Go.rgS dmx (by decide) ?_|(refine GoR.o (by rfl) (by rfl) ?_;(conv => arg 1;simp only [G,Z,Y,Gx,un_neg,cutD,decide_true,decide_false,simprocAttr,fb2,fb3,fb9,fb25,fb33,fb116,fb139,fb141,dl, at1, at0, hn, d0, hbl, pred_cast (show 0 < i by omega) (show i < 4611686018427387904 by omega)]);show GoR ..)|(refine GoR.c c90 (by rfl) (by rfl) rfl ?_;(refine (rowName _ _).ret ?_))|refine GoR.s (by rfl) rfl rfl ?_|(refine GoR.splitG rfl (fun hc => ?_) (fun hc => ?_) <;> simp only [hc])|refine Go.condB rfl (fun hc => ?_) (fun hc => ?_))
          refine ⟨(by first | exact .inl rfl | exact .inr rfl), fin ?_⟩
          rw [resD_tmp (fn := Tryz.f92) rfl]
          simp only [optThen_some,resultD_tmp,resultD_cell,G,Z,Y,Gx,un_neg,cutD,decide_true,decide_false,simprocAttr,fb2,fb3,fb9,fb25,fb33,fb116,fb139,fb141]
          exact ⟨_, Eg, hEg, .int, by rw [hk, he]; rfl⟩
        | true =>
          have hbl : Op.bytesLess (l[i - 1]'(by omega)).n.toList l[i].n.toList = true := hb
          have he : attE (prevN l i) l[i] = chkV l[i].v := by rw [attE, if_neg (by rw [hn]; decide), hp, if_neg (by simp [hb])]
          rw [he] at hk
          by_cases hc0 : chkV l[i].v = 0
          · rw [if_pos hc0] at hk
            repeat' (first|refine Go.a rfl ?_|refine Go.rg ?_|refine GoR.nil ?_|refine Go.ret ?_|refine Go.b rfl ?_|refine Go.rgS dmx (by decide) ?_|(refine GoR.o (by rfl) (by rfl) ?_;(conv => arg 1;simp only [G,Z,Y,Gx,un_neg,cutD,decide_true,decide_false,simprocAttr,fb2,fb3,fb9,fb25,fb33,fb116,fb139,fb141,dl, at1, at0, hn, d0, hbl, hc0, pred_cast (show 0 < i by omega) (show i < 4611686018427387904 by omega), wrap_succ (show i < 4611686018427387904 by omega)]);show GoR ..)|(refine GoR.c c90 (by rfl) (by rfl) rfl ?_;(refine (rowName _ _).ret ?_))|(refine GoR.c c118 (by rfl) (by rfl) rfl ?_;(refine (hv _).ret ?_))|refine GoR.s (by rfl) rfl rfl ?_|(refine GoR.splitG rfl (fun hc => ?_) (fun hc => ?_) <;> simp only [hc])|refine Go.condB rfl (fun hc => ?_) (fun hc => ?_))
            refine Go.lpN ?_
            refine Go.keep [(0, .sl none 5 l.length (attsC l)), (9, .sl none 5 l.length (attsC l)), (10, .int .i64 (l.length : Int)), (11, .int .i64 ((i + 1 : Nat) : Int))] (.cons .refl (.cons .refl (.cons .refl (.cons .refl (.nil))))) ?_
            exact next (i + 1, _) (by dsimp only; omega) ⟨h1, hk, hg.trans Grown.app⟩
          · clear next
            rw [if_neg hc0] at hk
            repeat' (first|refine Go.a rfl ?_|refine Go.rg ?_|refine GoR.nil ?_|refine Go.ret ?_|refine Go.b rfl ?_|refine Go.rgS dmx (by decide) ?_|(refine GoR.o (by rfl) (by rfl) ?_;(conv => arg 1;simp only [G,Z,Y,Gx,un_neg,cutD,decide_true,decide_false,simprocAttr,fb2,fb3,fb9,fb25,fb33,fb116,fb139,fb141,dl, at1, at0, hn, d0, hbl, pred_cast (show 0 < i by omega) (show i < 4611686018427387904 by omega), show (chkV l[i].v != 0) = true by simpa using hc0]);show GoR ..)|(refine GoR.c c90 (by rfl) (by rfl) rfl ?_;(refine (rowName _ _).ret ?_))|(refine GoR.c c118 (by rfl) (by rfl) rfl ?_;(refine (hv _).ret ?_))|refine GoR.s (by rfl) rfl rfl ?_|(refine GoR.splitG rfl (fun hc => ?_) (fun hc => ?_) <;> simp only [hc])|refine Go.condB rfl (fun hc => ?_) (fun hc => ?_))
            refine ⟨(by first | exact .inl rfl | exact .inr rfl), fin ?_⟩
            rw [resD_tmp (fn := Tryz.f92) rfl]
            simp only [optThen_some,resultD_tmp,resultD_cell,G,Z,Y,Gx,un_neg,cutD,decide_true,decide_false,simprocAttr,fb2,fb3,fb9,fb25,fb33,fb116,fb139,fb141]
            exact ⟨_, Eg, hEg, .int, by rw [hk]⟩
  · clear next
    obtain ⟨E, hE⟩ := hg.pre [] S rfl (by simp)
    repeat' (first|refine Go.a rfl ?_|refine Go.rg ?_|refine GoR.nil ?_|refine Go.ret ?_|refine Go.b rfl ?_|refine Go.rgS dmx (by decide) ?_|(refine GoR.o (by rfl) (by rfl) ?_;(conv => arg 1;simp only [G,Z,Y,Gx,un_neg,cutD,decide_true,decide_false,simprocAttr,fb2,fb3,fb9,fb25,fb33,fb116,fb139,fb141,show (decide ((i : Int) < (l.length : Int))) = false by simp; omega]);show GoR ..)|refine GoR.s (by rfl) rfl rfl ?_|(refine GoR.splitG rfl (fun hc => ?_) (fun hc => ?_) <;> simp only [hc])|refine Go.condB rfl (fun hc => ?_) (fun hc => ?_))
    refine ⟨(by first | exact .inl rfl | exact .inr rfl), fin ?_⟩
    rw [resD_tmp (fn := Tryz.f92) rfl]
    simp only [optThen_some,resultD_tmp,resultD_cell,G,Z,Y,Gx,un_neg,cutD,decide_true,decide_false,simprocAttr,fb2,fb3,fb9,fb25,fb33,fb116,fb139,fb141]
    exact ⟨_, E, hE, .int, by rw [hk, List.drop_of_length_le (by omega)]; rfl⟩
end Go.Proofs.DtT

/- Whether a row may be: the document's word. -/
namespace Go.Proofs.DtT
open Go Go.DM Go.Proofs.DtF
set_option maxRecDepth 100000
variable {orc : DOracle}

structure Rw where
  key : ByteArray
  st : St
  at_ : List Att
def Rw.c (r : Rw) : List D := [.str r.key, .int .i64 r.st.tick, .int .i64 r.st.inc, .int .i64 r.st.seq, .str r.st.org, .sl none 5 r.at_.length (attsC r.at_)]
def chkR (r : Rw) : Int := if nameOk r.key = false then 5 else if chk r.st = 0 then attrsE r.at_ else chk r.st
structure FewR (r : Rw) : Prop where
  key : r.key.size < 1000000
  org : r.st.org.size < 1000000
  atn : ∀ a ∈ r.at_, a.n.size < 1000000
  ats : ∀ a ∈ r.at_, a.v.s.size < 1000000
  atl : ∀ a ∈ r.at_, a.v.l.length < 1000000
theorem rowCheck (r : Rw) (hr : FewR r) (S : Mem) : CallD Tryz.prog O 57 [.agg r.c] S fun d S' => S' = S ∧ d = .int .i64 (chkR r) := by
  have hat := fun S => rowAttrs (orc := O) r.at_ hr.ats S
  have hst := fun S => stCheck r.st hr.org S
  obtain ⟨key, ⟨a, b, c, org⟩, at_⟩ := r
  simp only [Rw.c, St.c] at *
  refine CallD.e Tryz.func57 rfl Tryz.ntmps57 (by rfl) ?_
  cases hn : nameOk key with
  | false =>
    repeat' (first|refine Go.a rfl ?_|refine Go.rg ?_|refine GoR.nil ?_|refine Go.ret ?_|refine Go.b rfl ?_|(refine GoR.o (by rfl) (by rfl) ?_;(conv => arg 1;simp only [G,Z,Y,Gx,un_neg,cutD,decide_true,decide_false,simprocAttr,fb2,fb9,fb25,fb32,fb33,fb35,hn]);show GoR ..)|(refine GoR.c c90 (by rfl) (by rfl) rfl ?_;(refine (rowName _ _).ret ?_))|refine Go.condB rfl (fun hc => ?_) (fun hc => ?_))
    refine ⟨(by first | exact .inl rfl | exact .inr rfl), fin ?_⟩
    rw [resD_tmp (fn := Tryz.f57) rfl]
    simp only [optThen_some,resultD_tmp,resultD_cell,G,Z,Y,Gx,un_neg,cutD,decide_true,decide_false,simprocAttr,fb2,fb9,fb25,fb32,fb33,fb35]
    exact ⟨_, _, rfl, .int, by rw [chkR, if_pos hn]⟩
  | true =>
    by_cases h0 : chk ⟨a, b, c, org⟩ = 0
    · repeat' (first|refine Go.a rfl ?_|refine Go.rg ?_|refine GoR.nil ?_|refine Go.ret ?_|refine Go.b rfl ?_|(refine GoR.o (by rfl) (by rfl) ?_;(conv => arg 1;simp only [G,Z,Y,Gx,un_neg,cutD,decide_true,decide_false,simprocAttr,fb2,fb9,fb25,fb32,fb33,fb35,hn, h0]);show GoR ..)|(refine GoR.c c90 (by rfl) (by rfl) rfl ?_;(refine (rowName _ _).ret ?_))|(refine GoR.c c91 (by rfl) (by rfl) rfl ?_;(refine (hst _).ret ?_))|(refine GoR.c c92 (by rfl) (by rfl) rfl ?_;(refine (hat _).ret ?_))|refine Go.condB rfl (fun hc => ?_) (fun hc => ?_))
      refine ⟨(by first | exact .inl rfl | exact .inr rfl), fin ?_⟩
      rw [resD_tmp (fn := Tryz.f57) rfl]
      simp only [optThen_some,resultD_tmp,resultD_cell,G,Z,Y,Gx,un_neg,cutD,decide_true,decide_false,simprocAttr,fb2,fb9,fb25,fb32,fb33,fb35]
      exact ⟨_, _, rfl, .int, by rw [chkR, if_neg (by simp [hn]), if_pos h0]⟩
    · repeat' (first|refine Go.a rfl ?_|refine Go.rg ?_|refine GoR.nil ?_|refine Go.ret ?_|refine Go.b rfl ?_|(refine GoR.o (by rfl) (by rfl) ?_;(conv => arg 1;simp only [G,Z,Y,Gx,un_neg,cutD,decide_true,decide_false,simprocAttr,fb2,fb9,fb25,fb32,fb33,fb35,hn, show (chk ⟨a, b, c, org⟩ != 0) = true by simpa using h0]);show GoR ..)|(refine GoR.c c90 (by rfl) (by rfl) rfl ?_;(refine (rowName _ _).ret ?_))|(refine GoR.c c91 (by rfl) (by rfl) rfl ?_;(refine (hst _).ret ?_))|refine Go.condB rfl (fun hc => ?_) (fun hc => ?_))
      refine ⟨(by first | exact .inl rfl | exact .inr rfl), fin ?_⟩
      rw [resD_tmp (fn := Tryz.f57) rfl]
      simp only [optThen_some,resultD_tmp,resultD_cell,G,Z,Y,Gx,un_neg,cutD,decide_true,decide_false,simprocAttr,fb2,fb9,fb25,fb32,fb33,fb35]
      exact ⟨_, _, rfl, .int, by rw [chkR, if_neg (by simp [hn]), if_neg h0]⟩
end Go.Proofs.DtT
