/- The document's table: looked at. -/
import Derived.Test.YtlllhmenekibjaaGreatDoorDtT8x
import Derived.Test.YtlllhmenekibjaaGreatDoorDmOx
set_option linter.unusedSimpArgs false
set_option linter.unusedVariables false
namespace Go.Proofs.DtT
open Go Go.DM Go.Proofs.DtF
set_option maxRecDepth 100000
variable {orc : DOracle}

def refT (most : Int) (l : List Rw) : List D := [.int .i64 most, .sl none 6 l.length (rowsC l)]
theorem refT_low {n : Nat} {most : Int} {l : List Rw} : LowL n (refT most l) := .cons (.int _ _) (.cons (.sl' (rows_low l)) .nil)
theorem rowKey {l : List Rw} {i : Nat} (h : i < l.length) : (rowsC l)[i * 6]? = some (.str l[i].key) := flat_cell0 row_len l i h (by omega)
theorem rowSt {l : List Rw} {i : Nat} (h : i < l.length) : ((i * 6 + 1 + 4 ≤ (rowsC l).length) = True) ∧ ((rowsC l).drop (i * 6 + 1)).take 4 = l[i].st.c := ⟨flat_fits row_len l i h (by omega), flat_part row_len l i h (by omega)⟩
theorem rowTick {l : List Rw} {i : Nat} (h : i < l.length) : (rowsC l)[i * 6 + 1]? = some (.int .i64 l[i].st.tick) := flat_cell row_len l i h (by omega)
theorem refAt {most : Int} {l : List Rw} (hr : RiseB Rw.key l) (hl : l.length < 1000000) (s : ByteArray) (S : Mem) : CallD Tryz.prog orc 54 [.agg (refT most l), .str s] S fun d S' => S' = S ∧ d = .tup [.int .i64 ((posK Rw.key l s : Nat) : Int), .bool (lookK Rw.key l s).isSome] := by
  unfold refT
  refine CallD.e Tryz.func54 rfl Tryz.ntmps54 (by rfl) ?_
  repeat' (first|refine Go.a rfl ?_|refine Go.rg ?_|refine GoR.nil ?_|refine Go.ret ?_|refine Go.b rfl ?_|refine Go.rgS dmx (by decide) ?_|(refine GoR.o (by rfl) (by rfl) ?_;(conv => arg 1;simp only [G,Z,Y,Gx,un_neg,cutD,decide_true,decide_false,simprocAttr,fb3,fb9,fb28,fb30,fb41,fb42,fb44]);show GoR ..)|refine GoR.s (by rfl) rfl rfl ?_|(refine GoR.splitG rfl (fun hc => ?_) (fun hc => ?_) <;> simp only [hc])|refine Go.condB rfl (fun hc => ?_) (fun hc => ?_))
  refine Go.keep [(1, .str s), (2, .ptr S.length 0), (6, .int .i64 ((0 : Nat) : Int))] (.cons .refl (.cons .refl (.cons .refl (.nil)))) ?_
  refine Go.while (α := Nat) (fun i => l.length - i) (fun i => [(1, .str s), (2, .ptr S.length 0), (6, .int .i64 (i : Int))]) (fun _ => S ++ [.obj (refT most l)]) (fun i => i ≤ posK Rw.key l s) ?_ 0 (Nat.zero_le _)
  intro i hi next
  unfold refT
  have hpl := posK_le (f := Rw.key) l s
  by_cases h1 : i < posK Rw.key l s
  · have h2 : i < l.length := by omega
    have hbl : Op.bytesLess l[i].key.toList s.toList = true := posK_lt h2 h1
    repeat' (first|refine Go.a rfl ?_|refine Go.rg ?_|refine GoR.nil ?_|refine Go.ret ?_|refine Go.b rfl ?_|refine Go.rgS dmx (by decide) ?_|(refine GoR.o (by rfl) (by rfl) ?_;(conv => arg 1;simp only [G,Z,Y,Gx,un_neg,cutD,decide_true,decide_false,simprocAttr,fb3,fb9,fb28,fb30,fb41,fb42,fb44,show decide ((i : Int) < (l.length : Int)) = true by simp; omega, rowsAt h2, rowKey h2, hbl, wrap_succ (show i < 4611686018427387904 by omega)]);show GoR ..)|refine GoR.s (by rfl) rfl rfl ?_|(refine GoR.splitG rfl (fun hc => ?_) (fun hc => ?_) <;> simp only [hc])|refine Go.condB rfl (fun hc => ?_) (fun hc => ?_))
    refine Go.lpN ?_
    refine Go.keep [(1, .str s), (2, .ptr S.length 0), (6, .int .i64 ((i + 1 : Nat) : Int))] (.cons .refl (.cons .refl (.cons .refl (.nil)))) ?_
    exact next (i + 1) (by omega) h1
  · clear next
    obtain rfl : i = posK Rw.key l s := by omega
    by_cases h2 : posK Rw.key l s < l.length
    · have hbl : Op.bytesLess l[posK Rw.key l s].key.toList s.toList = false := posK_ge h2
      have hq : (lookK Rw.key l s).isSome = decide (l[posK Rw.key l s].key = s) := by
        rw [Bool.eq_iff_iff, decide_eq_true_eq]
        refine ⟨fun h => (posK_at hr h).2, fun h => ?_⟩
        have := lookK_getElem hr h2
        rw [h] at this
        rw [this]
        rfl
      rw [hq]
      have hk := rowKey h2
      have ha := rowsAt h2
      generalize l[posK Rw.key l s].key = kk at *
      generalize posK Rw.key l s = i at *
      repeat' (first|refine Go.a rfl ?_|refine Go.rg ?_|refine GoR.nil ?_|refine Go.ret ?_|refine Go.b rfl ?_|refine Go.rgS dmx (by decide) ?_|(refine GoR.o (by rfl) (by rfl) ?_;(conv => arg 1;simp only [G,Z,Y,Gx,un_neg,cutD,decide_true,decide_false,simprocAttr,fb3,fb9,fb28,fb30,fb41,fb42,fb44,show decide ((i : Int) < (l.length : Int)) = true by simp; omega, ha, hk, hbl]);show GoR ..)|refine GoR.s (by rfl) rfl rfl ?_|(refine GoR.splitG rfl (fun hc => ?_) (fun hc => ?_) <;> simp only [hc])|refine Go.condB rfl (fun hc => ?_) (fun hc => ?_))
      refine ⟨(by first | exact .inl rfl | exact .inr rfl), fin ?_⟩
      rw [resD_two (fn := Tryz.f54) rfl]
      simp only [optThen_some,resultD_tmp,resultD_cell,G,Z,Y,Gx,un_neg,cutD,decide_true,decide_false,simprocAttr,fb3,fb9,fb28,fb30,fb41,fb42,fb44]
      exact ⟨_, _, rfl, .of_low (.tup' (.cons (.int _ _) (.cons (.bool _) .nil))), rfl⟩
    · have hq : (lookK Rw.key l s).isSome = false := by
        cases hq : (lookK Rw.key l s).isSome with
        | false => rfl
        | true => exact absurd (posK_at hr hq).1 h2
      rw [hq]
      generalize posK Rw.key l s = i at *
      repeat' (first|refine Go.a rfl ?_|refine Go.rg ?_|refine GoR.nil ?_|refine Go.ret ?_|refine Go.b rfl ?_|refine Go.rgS dmx (by decide) ?_|(refine GoR.o (by rfl) (by rfl) ?_;(conv => arg 1;simp only [G,Z,Y,Gx,un_neg,cutD,decide_true,decide_false,simprocAttr,fb3,fb9,fb28,fb30,fb41,fb42,fb44,show decide ((i : Int) < (l.length : Int)) = false by simp; omega]);show GoR ..)|refine GoR.s (by rfl) rfl rfl ?_|(refine GoR.splitG rfl (fun hc => ?_) (fun hc => ?_) <;> simp only [hc])|refine Go.condB rfl (fun hc => ?_) (fun hc => ?_))
      refine ⟨(by first | exact .inl rfl | exact .inr rfl), fin ?_⟩
      rw [resD_two (fn := Tryz.f54) rfl]
      simp only [optThen_some,resultD_tmp,resultD_cell,G,Z,Y,Gx,un_neg,cutD,decide_true,decide_false,simprocAttr,fb3,fb9,fb28,fb30,fb41,fb42,fb44]
      exact ⟨_, _, rfl, .of_low (.tup' (.cons (.int _ _) (.cons (.bool _) .nil))), rfl⟩
theorem refGetT {most : Int} {l : List Rw} (hr : RiseB Rw.key l) (hl : l.length < 1000000) (s : ByteArray) (S : Mem) : CallD Tryz.prog orc 13 [.agg (refT most l), .str s] S fun d S' => S' = S ∧ d = .tup [.agg ((lookK Rw.key l s).getD noRow).c, .bool (lookK Rw.key l s).isSome] := by
  have hat := fun S => refAt (orc := orc) (most := most) hr hl s S
  cases hq : lookK Rw.key l s with
  | none =>
    rw [hq] at hat
    simp only [Option.getD_none, Option.isSome_none, Rw.c, noRow, refT] at *
    refine CallD.e Tryz.func13 rfl Tryz.ntmps13 (by rfl) ?_
    repeat' (first|refine Go.a rfl ?_|refine Go.rg ?_|refine GoR.nil ?_|refine Go.ret ?_|refine Go.b rfl ?_|(refine GoR.o (by rfl) (by rfl) ?_;(conv => arg 1;simp only [G,Z,Y,Gx,un_neg,cutD,decide_true,decide_false,simprocAttr,fb3,fb9,fb28,fb30,fb41,fb42,fb44]);show GoR ..)|(refine GoR.c c54 (by rfl) (by rfl) rfl ?_;(refine (hat _).ret ?_))|refine Go.condB rfl (fun hc => ?_) (fun hc => ?_))
    refine ⟨(by first | exact .inl rfl | exact .inr rfl), fin ?_⟩
    rw [resD_two (fn := Tryz.f13) rfl]
    simp only [optThen_some,resultD_tmp,resultD_cell,G,Z,Y,Gx,un_neg,cutD,decide_true,decide_false,simprocAttr,fb3,fb9,fb28,fb30,fb41,fb42,fb44]
    exact ⟨_, _, rfl, (Wf.tup' (.cons (.agg' (.cons .refl (.cons .refl (.cons .refl (.cons .refl (.cons .refl (.cons .nilE .nil))))))) (.cons .refl .nil))).to_Wk (.tup' (.cons (.agg' (row_low noRow)) (.cons (.bool _) .nil))), rfl⟩
  | some r =>
    have hso : (lookK Rw.key l s).isSome = true := by rw [hq]; rfl
    obtain ⟨hi, hk⟩ := posK_at hr hso
    have e : l[posK Rw.key l s] = r := by
      have := lookK_getElem hr hi
      rw [hk, hq] at this
      exact (Option.some.inj this).symm
    rw [hq] at hat
    have at1 := rowsAt hi
    rw [e] at at1
    generalize posK Rw.key l s = i at *
    simp only [Option.getD_some, Option.isSome_some, Rw.c, refT] at *
    refine CallD.e Tryz.func13 rfl Tryz.ntmps13 (by rfl) ?_
    repeat' (first|refine Go.a rfl ?_|refine Go.rg ?_|refine GoR.nil ?_|refine Go.ret ?_|refine Go.b rfl ?_|(refine GoR.o (by rfl) (by rfl) ?_;(conv => arg 1;simp only [G,Z,Y,Gx,un_neg,cutD,decide_true,decide_false,simprocAttr,fb3,fb9,fb28,fb30,fb41,fb42,fb44,at1]);show GoR ..)|(refine GoR.c c54 (by rfl) (by rfl) rfl ?_;(refine (hat _).ret ?_))|refine Go.condB rfl (fun hc => ?_) (fun hc => ?_))
    refine ⟨(by first | exact .inl rfl | exact .inr rfl), fin ?_⟩
    rw [resD_two (fn := Tryz.f13) rfl]
    simp only [optThen_some,resultD_tmp,resultD_cell,G,Z,Y,Gx,un_neg,cutD,decide_true,decide_false,simprocAttr,fb3,fb9,fb28,fb30,fb41,fb42,fb44]
    exact ⟨_, _, rfl, .of_low (.tup' (.cons (.agg' (row_low r)) (.cons (.bool _) .nil))), rfl⟩
end Go.Proofs.DtT

/- Few rows; what putting comes to, plainly. -/
namespace Go.Proofs.DtT
open Go Go.DM Go.Proofs.DtF
set_option maxRecDepth 100000
variable {orc : DOracle}

theorem fewR_ok {r : Rw} (h : fewR r = true) : FewR r ∧ OkR r := by
  simp only [fewR, Bool.and_eq_true, decide_eq_true_eq] at h
  obtain ⟨h1, h2, h3⟩ := h
  obtain ⟨h4, h5⟩ := fewA_size h3
  exact ⟨fewR_of (k := r.key) (st := r.st) (l := r.at_) (by omega) (by omega) h3, by omega, fun a ha => by have := h5 a ha; omega⟩
theorem sameA_self (a : Att) : sameA a a = true := by
  have h : cmpV a.v a.v = 0 := by
    have hl : ∀ l : List Int, cmpL l l = 0 := by
      intro l
      induction l with
      | nil => rfl
      | cons x l ih => simp [cmpL, cmpI, ih]
    have hb : ∀ s : ByteArray, cmpB s s = 0 := fun s => cmpB_zero.2 rfl
    unfold cmpV
    simp [cmpI, hl, hb, orI]
  unfold sameA
  simp [h]
theorem sameR_self (r : Rw) : sameR r r = true := by
  have hl : ∀ l : List Att, sameL l l = true := by
    intro l
    induction l with
    | nil => rfl
    | cons a l ih => simp [sameL, sameA_self, ih]
  have hs : cmpSt r.st r.st = 0 := by
    have hb : ∀ s : ByteArray, cmpB s s = 0 := fun s => cmpB_zero.2 rfl
    unfold cmpSt
    simp [cmpI, hb, orI]
  unfold sameR
  simp [hl, hs]
def ltSt (a b : St) : Prop := a.tick < b.tick ∨ (a.tick = b.tick ∧ (a.inc < b.inc ∨ (a.inc = b.inc ∧ (a.seq < b.seq ∨ (a.seq = b.seq ∧ ltB a.org b.org = true)))))
theorem cmpSt_cases (a b : St) : (cmpSt a b = -1 ∧ ltSt a b) ∨ (cmpSt a b = 0 ∧ a = b) ∨ (cmpSt a b = 1 ∧ ltSt b a) := by
  obtain ⟨a1, a2, a3, a4⟩ := a
  obtain ⟨b1, b2, b3, b4⟩ := b
  have key : ∀ x y : Int, (cmpI x y = -1 ∧ x < y) ∨ (cmpI x y = 0 ∧ x = y) ∨ (cmpI x y = 1 ∧ y < x) := by
    intro x y
    unfold cmpI
    rcases Int.lt_trichotomy x y with h | h | h
    · exact .inl ⟨by rw [if_pos h], h⟩
    · exact .inr (.inl ⟨by rw [if_neg (by omega), if_neg (by omega)], h⟩)
    · exact .inr (.inr ⟨by rw [if_neg (by omega), if_pos h], h⟩)
  have keyB : (cmpB a4 b4 = -1 ∧ ltB a4 b4 = true) ∨ (cmpB a4 b4 = 0 ∧ a4 = b4) ∨ (cmpB a4 b4 = 1 ∧ ltB b4 a4 = true) := by
    unfold cmpB
    rcases ltB_total a4 b4 with h | h | h
    · exact .inl ⟨by rw [if_pos h], h⟩
    · subst h
      exact .inr (.inl ⟨by rw [if_neg (by rw [ltB_irrefl]; decide), if_pos rfl], rfl⟩)
    · have h1 := ltB_asymm h
      refine .inr (.inr ⟨?_, h⟩)
      rw [if_neg (by rw [h1]; decide), if_neg]
      rintro rfl
      rw [ltB_irrefl] at h
      cases h
  simp only [cmpSt, orI, ltSt, St.mk.injEq]
  rcases key a1 b1 with ⟨e1, h1⟩ | ⟨e1, h1⟩ | ⟨e1, h1⟩ <;> rw [e1]
  · simp [h1]
  · subst h1
    rcases key a2 b2 with ⟨e2, h2⟩ | ⟨e2, h2⟩ | ⟨e2, h2⟩ <;> rw [e2]
    · simp [h2]
    · subst h2
      rcases key a3 b3 with ⟨e3, h3⟩ | ⟨e3, h3⟩ | ⟨e3, h3⟩ <;> rw [e3]
      · simp [h3]
      · subst h3
        rcases keyB with ⟨e4, h4⟩ | ⟨e4, h4⟩ | ⟨e4, h4⟩ <;> rw [e4]
        · simp [h4]
        · simp [h4]
        · simp [h4]
      · simp [h3]
    · simp [h2]
  · simp [h1]
theorem ltSt_trans {a b c : St} (h : ltSt a b) (k : ltSt b c) : ltSt a c := by
  unfold ltSt at *
  rcases h with h | ⟨h1, h | ⟨h2, h | ⟨h3, h⟩⟩⟩ <;> rcases k with k | ⟨k1, k | ⟨k2, k | ⟨k3, k⟩⟩⟩ <;>
    first
      | (exact .inr ⟨by omega, .inr ⟨by omega, .inr ⟨by omega, ltB_trans h k⟩⟩⟩)
      | (exact .inl (by omega))
      | (exact .inr ⟨by omega, .inl (by omega)⟩)
      | (exact .inr ⟨by omega, .inr ⟨by omega, .inl (by omega)⟩⟩)
theorem ltSt_irrefl (a : St) : ¬ ltSt a a := by
  unfold ltSt
  rw [ltB_irrefl]
  rintro (h | ⟨_, h | ⟨_, h | ⟨_, h⟩⟩⟩)
  · omega
  · omega
  · omega
  · cases h
theorem cmpSt_swap (a b : St) : cmpSt b a = 0 - cmpSt a b := by
  rcases cmpSt_cases a b with ⟨e, h⟩ | ⟨e, h⟩ | ⟨e, h⟩ <;> rcases cmpSt_cases b a with ⟨e2, h2⟩ | ⟨e2, h2⟩ | ⟨e2, h2⟩ <;> rw [e, e2] <;> first
    | rfl
    | (exact absurd (ltSt_trans h h2) (ltSt_irrefl _))
    | (subst h; exact absurd h2 (ltSt_irrefl _))
    | (subst h2; exact absurd h (ltSt_irrefl _))
end Go.Proofs.DtT

/- The document's table: a row dropped, the least row. -/
namespace Go.DM
open Go.AM
theorem Fr.grown' {F : List Nat} {b : Nat} {S S1 S2 : Mem} (x : Fr F S S1) (hb : S.length ≤ b) (hl : b ≤ S1.length) (g : Grown b S1 S2) : Fr F S S2 := by
  refine ⟨Nat.le_trans x.len g.len, fun o ho hF => ?_⟩
  have hl : (S1.take b).length = b := by rw [List.length_take]; omega
  obtain ⟨E', e⟩ := g.pre (S1.drop b) (S1.take b) hl (List.take_append_drop _ _).symm
  rw [e, List.getElem?_append_left (by omega), List.getElem?_take, if_pos (by omega)]
  exact x.at_ o ho hF
/-- A slice that stands in an object's field, with one more element. -/
theorem accU {P : Program} {b t e n bytes len u : Nat} {q o : D} {cells new : List D} {S1 : Mem} (h : ElemT P t e n bytes) (hu : objAt S1 u = some [q, o]) (hub : u < b) (hb : b ≤ S1.length) (hacc : AccD b o n len cells S1) (hf : fitsD bytes (len + 1) new) :
    ∃ o' S2, appendD P #[t, t] o (.sl (some S1.length) n 1 new) (S1 ++ [.own]) = some (o', S2) ∧ objAt S2 u = some [q, o] ∧ (cellsD o' = some [o'] ∧ D.one o' = true) ∧ objAt (S2.set u (.obj [q, o'])) u = some [q, o'] ∧ AccD b o' n (len + 1) (cells ++ new) (S2.set u (.obj [q, o'])) ∧
      (∀ j c, j ≠ u → objAt S1 j = some c → objAt (S2.set u (.obj [q, o'])) j = some c) ∧ (∀ S0, Fr [] S0 S1 → S0.length ≤ u → Fr [] S0 (S2.set u (.obj [q, o']))) ∧ b ≤ (S2.set u (.obj [q, o'])).length := by
  obtain ⟨o', S2, hap, hacc2, hg2⟩ := (hacc.app [.own]).append (P := P) h (own := some S1.length) (m := 1) (new := new) (by simp; omega) (by omega) hf
  have hg : Grown b S1 S2 := Grown.app.trans hg2
  have hu2 := hg.obj _ _ hu
  have h1 := hacc2.one
  refine ⟨o', S2, hap, hu2, ⟨h1.2, h1.1⟩, objAt_set_eq (objAt_lt hu2), hacc2.set hub, fun j c hj hc => (objAt_set_ne (fun e => hj e.symm)).trans (hg.obj _ _ hc), fun S0 hF h0 => ?_, by have := hg.len; simp; omega⟩
  exact (hF.grown' (b := b) (by omega) hb hg).trans (F := []) (G := [u]) (.set (by simp)) (by simp; omega)
end Go.DM
namespace Go.Proofs.DtT
open Go Go.DM Go.Proofs.DtF
set_option maxRecDepth 100000
variable {orc : DOracle}

def restK (l : List Rw) (s : ByteArray) : List Rw := l.filter fun r => !decide (r.key = s)
theorem restK_succ {l : List Rw} {s : ByteArray} {i : Nat} (h : i < l.length) : restK (l.take (i + 1)) s = restK (l.take i) s ++ if l[i].key = s then [] else [l[i]] := by
  rw [List.take_succ_eq_append_getElem h, restK, List.filter_append]
  by_cases he : l[i].key = s
  · rw [if_pos he]
    simp [restK, he]
  · rw [if_neg he]
    simp [restK, he]
theorem restK_le (l : List Rw) (s : ByteArray) : (restK l s).length ≤ l.length := List.length_filter_le _ _
theorem rowsC_app {x y : List Rw} : rowsC (x ++ y) = rowsC x ++ rowsC y := by simp [rowsC]
structure DropI (S S1 : Mem) (most : Int) (l : List Rw) (k : List Rw) (o : D) : Prop where
  fr : Fr [] S S1
  t : objAt S1 S.length = some [.int .i64 most, .sl none 6 l.length (rowsC l)]
  z : objAt S1 (S.length + 1) = some [.int .i64 0, .nils]
  u : objAt S1 (S.length + 2) = some [.int .i64 most, o]
  acc : AccD (S.length + 3) o 6 k.length (rowsC k) S1
theorem refDropT {most : Int} {l : List Rw} (hl : l.length < 1000000) (s : ByteArray) (S : Mem) : CallD Tryz.prog orc 15 [.agg (refT most l), .str s] S fun d S' => S' = S ∧ d = .agg (refT most (restK l s)) := by
  unfold refT
  refine CallD.e Tryz.func15 rfl Tryz.ntmps15 (by rfl) ?_
  repeat' (first|refine Go.a rfl ?_|refine Go.rg ?_|refine GoR.nil ?_|refine Go.ret ?_|refine Go.b rfl ?_|refine Go.rgS dmx (by decide) ?_|refine Go.rgD [1] (fun _ => True) dmx (by decide) 8 (by decide) (by trivial) ?_|refine GoW.nil rfl ?_|((first|refine GoR.o (by rfl) (by rfl) ?_|refine GoW.o (by rfl) (by rfl) ?_|refine GoW.rd (by rfl) (by rfl) ?_);(conv => arg 1;simp only [G,Z,Y,Gx,un_neg,cutD,decide_true,decide_false,simprocAttr,fb3,fb9,fb28,fb30,fb41,fb42,fb44]);first|show GoR ..|(show _ ∧ GoW ..;refine ⟨by exact fun _ => trivial,?_⟩)|(show _ ∧ _ ∧ _ ∧ GoW ..;refine ⟨rfl,by trivial,(fun H _=>by simp only [G,Z,Y,Gx,un_neg,cutD,decide_true,decide_false,simprocAttr,fb3,fb9,fb28,fb30,fb41,fb42,fb44]),?_⟩))|refine Go.condB rfl (fun hc => ?_) (fun hc => ?_))
  refine Go.keep [(1, .str s), (2, .ptr S.length 0), (4, .ptr (S.length + 1) 0), (5, .ptr (S.length + 2) 0), (6, .int .i64 ((0 : Nat) : Int))] (.cons .refl (.cons .refl (.cons .refl (.cons .refl (.cons .refl (.nil)))))) ?_
  refine Go.while (α := Nat × D × Mem) (fun x => l.length - x.1) (fun x => [(1, .str s), (2, .ptr S.length 0), (4, .ptr (S.length + 1) 0), (5, .ptr (S.length + 2) 0), (6, .int .i64 (x.1 : Int))]) (fun x => x.2.2)
    (fun x => x.1 ≤ l.length ∧ DropI S x.2.2 most l (restK (l.take x.1) s) x.2.1) ?_ (0, .nils, _) ⟨Nat.zero_le _, .app, by simp [objAt, List.getElem?_append_right], by simp [objAt, List.getElem?_append_right], by simp [objAt, List.getElem?_append_right], .inl ⟨rfl, rfl, rfl⟩⟩
  rintro ⟨i, o, S1⟩ ⟨hi, hI⟩ next
  dsimp only at hi hI next
  have hb : S.length + 3 ≤ S1.length := objAt_lt hI.u
  have hT := hI.t
  have hU := hI.u
  have hZ := hI.z
  by_cases h1 : i < l.length
  · have dl : decide ((i : Int) < (l.length : Int)) = true := by simp; omega
    have at1 := rowsAt h1
    have hsu := restK_succ (s := s) h1
    have hle := restK_le (l.take i) s
    rw [List.length_take] at hle
    by_cases hk : l[i].key = s
    · rw [if_pos hk, List.append_nil] at hsu
      repeat' (first|refine Go.a rfl ?_|refine Go.rg ?_|refine GoR.nil ?_|refine Go.ret ?_|refine Go.b rfl ?_|refine Go.rgS dmx (by decide) ?_|refine Go.rgD [1] (fun _ => True) dmx (by decide) 8 (by decide) (by trivial) ?_|refine GoW.nil rfl ?_|((first|refine GoR.o (by rfl) (by rfl) ?_|refine GoW.o (by rfl) (by rfl) ?_|refine GoW.rd (by rfl) (by rfl) ?_);(conv => arg 1;simp only [G,Z,Y,Gx,un_neg,cutD,decide_true,decide_false,simprocAttr,fb3,fb9,fb28,fb30,fb41,fb42,fb44,dl, hT, hU, at1, rowKey h1, hk, decide_true, Bool.not_true, wrap_succ (show i < 4611686018427387904 by omega)]);first|show GoR ..|(show _ ∧ GoW ..;refine ⟨by exact fun _ => trivial,?_⟩)|(show _ ∧ _ ∧ _ ∧ GoW ..;refine ⟨rfl,by trivial,(fun H _=>by simp only [G,Z,Y,Gx,un_neg,cutD,decide_true,decide_false,simprocAttr,fb3,fb9,fb28,fb30,fb41,fb42,fb44,dl, hT, hU, at1, rowKey h1, hk, decide_true, Bool.not_true, wrap_succ (show i < 4611686018427387904 by omega)]),?_⟩))|refine Go.condB rfl (fun hc => ?_) (fun hc => ?_))
      refine Go.lpN ?_
      refine Go.keep [(1, .str s), (2, .ptr S.length 0), (4, .ptr (S.length + 1) 0), (5, .ptr (S.length + 2) 0), (6, .int .i64 ((i + 1 : Nat) : Int))] (.cons .refl (.cons .refl (.cons .refl (.cons .refl (.cons .refl (.nil)))))) ?_
      refine next (i + 1, o, S1) (by dsimp only; omega) ⟨h1, ?_⟩
      dsimp only
      rw [hsu]
      exact hI
    · rw [if_neg hk] at hsu
      obtain ⟨o', S2, hap, hU2, hone, hU3, hacc3, hobj, hfr, _⟩ := accU (P := Tryz.prog) del28 (new := l[i].c) hI.u (by omega) hb hI.acc ⟨by omega, by omega, by omega, rfl⟩
      simp only [Rw.c] at hap at1
      repeat' (first|refine Go.a rfl ?_|refine Go.rg ?_|refine GoR.nil ?_|refine Go.ret ?_|refine Go.b rfl ?_|refine Go.rgS dmx (by decide) ?_|refine Go.rgD [1] (fun H => objAt H (S.length + 2) = some [.int .i64 most, o] ∧ objAt H S.length = some [.int .i64 most, .sl none 6 l.length (rowsC l)]) dmx (by decide) 8 (by decide) (by (first | exact ⟨hU, hT⟩ | exact ⟨objAt_old hU, objAt_old hT⟩)) ?_|refine GoW.nil rfl ?_|((first|refine GoR.o (by rfl) (by rfl) ?_|refine GoW.o (by rfl) (by rfl) ?_|refine GoW.rd (by rfl) (by rfl) ?_);(conv => arg 1;simp only [G,Z,Y,Gx,un_neg,cutD,decide_true,decide_false,simprocAttr,fb3,fb9,fb28,fb30,fb41,fb42,fb44,dl, hT, hU, hU2, hap, hone, builtin_append, at1, rowKey h1, show decide (l[i].key = s) = false by simpa using hk, wrap_succ (show i < 4611686018427387904 by omega)]);first|show GoR ..|(show _ ∧ GoW ..;refine ⟨by (first|exact fun h => absurd h (by decide)|(intro _;(first | exact ⟨hU, hT⟩ | exact ⟨objAt_old hU, objAt_old hT⟩))),?_⟩)|(show _ ∧ _ ∧ _ ∧ GoW ..;refine ⟨rfl,by (first | exact ⟨hU, hT⟩ | exact ⟨objAt_old hU, objAt_old hT⟩),(fun H hI=>by (try dsimp only at hI);simp only [G,Z,Y,Gx,un_neg,cutD,decide_true,decide_false,simprocAttr,fb3,fb9,fb28,fb30,fb41,fb42,fb44,dl, hT, hU, hU2, hap, hone, builtin_append, at1, rowKey h1, show decide (l[i].key = s) = false by simpa using hk, wrap_succ (show i < 4611686018427387904 by omega),hI]),?_⟩))|refine Go.condB rfl (fun hc => ?_) (fun hc => ?_))
      refine Go.lpN ?_
      refine Go.keep [(1, .str s), (2, .ptr S.length 0), (4, .ptr (S.length + 1) 0), (5, .ptr (S.length + 2) 0), (6, .int .i64 ((i + 1 : Nat) : Int))] (.cons .refl (.cons .refl (.cons .refl (.cons .refl (.cons .refl (.nil)))))) ?_
      refine next (i + 1, o', _) (by dsimp only; omega) ⟨h1, hfr _ hI.fr (by omega), hobj _ _ (by omega) hI.t, hobj _ _ (by omega) hI.z, hU3, ?_⟩
      dsimp only
      rw [hsu, List.length_append, rowsC_app]
      have : rowsC [l[i]] = l[i].c := by simp [rowsC]
      rw [this]
      exact hacc3
  · clear next
    have hi' : i = l.length := by omega
    subst hi'
    have hacc := hI.acc
    rw [List.take_length] at hacc
    have hone := hacc.one
    have hs : ∀ c, objAt (S1.set (S.length + 1) (.obj c)) (S.length + 1) = some c := fun c => objAt_set_eq (objAt_lt hZ)
    repeat' (first|refine Go.a rfl ?_|refine Go.rg ?_|refine GoR.nil ?_|refine Go.ret ?_|refine Go.b rfl ?_|refine Go.rgS dmx (by decide) ?_|refine Go.rgD [1] (fun _ => True) dmx (by decide) 8 (by decide) (by trivial) ?_|refine GoW.nil rfl ?_|((first|refine GoR.o (by rfl) (by rfl) ?_|refine GoW.o (by rfl) (by rfl) ?_|refine GoW.rd (by rfl) (by rfl) ?_);(conv => arg 1;simp only [G,Z,Y,Gx,un_neg,cutD,decide_true,decide_false,simprocAttr,fb3,fb9,fb28,fb30,fb41,fb42,fb44,show decide ((l.length : Int) < (l.length : Int)) = false by simp, hT, hU, hZ, hone]);first|show GoR ..|(show _ ∧ GoW ..;refine ⟨by exact fun _ => trivial,?_⟩)|(show _ ∧ _ ∧ _ ∧ GoW ..;refine ⟨rfl,by trivial,(fun H _=>by simp only [G,Z,Y,Gx,un_neg,cutD,decide_true,decide_false,simprocAttr,fb3,fb9,fb28,fb30,fb41,fb42,fb44,show decide ((l.length : Int) < (l.length : Int)) = false by simp, hT, hU, hZ, hone]),?_⟩))|refine Go.condB rfl (fun hc => ?_) (fun hc => ?_))
    refine ⟨(by first | exact .inl rfl | exact .inr rfl), fin ?_⟩
    rw [resD_cell (fn := Tryz.f15) rfl]
    simp only [optThen_some,resultD_tmp,resultD_cell,G,Z,Y,Gx,un_neg,cutD,decide_true,decide_false,simprocAttr,fb3,fb9,fb28,fb30,fb41,fb42,fb44,hs]
    obtain ⟨E, hE⟩ := (hI.fr.trans (F := []) (G := [S.length + 1]) (.set (o := S.length + 1) (x := .obj [.int .i64 most, o]) (by simp)) (by simp)).pre (by simp)
    exact ⟨_, E, hE, (Wf.agg' (.cons .refl (.cons hacc.wf .nil))).to_Wk (.agg' (refT_low (l := restK l s))), rfl⟩
theorem refLeast {most : Int} {x : Rw} {l : List Rw} (hl : l.length < 1000000) (S : Mem) : CallD Tryz.prog orc 53 [.agg (refT most (x :: l))] S fun d S' => S' = S ∧ d = .agg (leastR x l).c := by
  have at0 := rowsAt (l := x :: l) (i := 0) (by simp)
  have g0 : ((0 : Int) < ((l.length + 1 : Nat) : Int)) = True := by simp <;> omega
  have g1 : Int.toNat 0 = 0 := rfl
  simp only [List.getElem_cons_zero, Rw.c, List.length_cons, Nat.zero_mul, Nat.zero_add, List.drop_zero, refT] at at0 ⊢
  refine CallD.e Tryz.func53 rfl Tryz.ntmps53 (by rfl) ?_
  repeat' (first|refine Go.a rfl ?_|refine Go.rg ?_|refine GoR.nil ?_|refine Go.ret ?_|refine Go.b rfl ?_|refine Go.rgS dmx (by decide) ?_|(refine GoR.o (by rfl) (by rfl) ?_;(conv => arg 1;simp only [G,Z,Y,Gx,un_neg,cutD,decide_true,decide_false,simprocAttr,fb2,fb3,fb9,fb28,fb30,fb41,fb42,fb44,at0, g0, g1]);show GoR ..)|refine Go.condB rfl (fun hc => ?_) (fun hc => ?_))
  refine Go.keep [(1, .ptr S.length 0), (2, .ptr (S.length + 1) 0), (3, .ptr (S.length + 2) 0), (4, .int .i64 ((0 + 1 : Nat) : Int))] (.cons .refl (.cons .refl (.cons .refl (.cons .refl (.nil))))) ?_
  refine Go.while (α := Nat × Rw) (fun a => l.length - a.1) (fun a => [(1, .ptr S.length 0), (2, .ptr (S.length + 1) 0), (3, .ptr (S.length + 2) 0), (4, .int .i64 ((a.1 + 1 : Nat) : Int))]) (fun a => S ++ [.obj (refT most (x :: l)), .obj zRow, .obj a.2.c])
    (fun a => a.1 ≤ l.length ∧ leastR a.2 (l.drop a.1) = leastR x l) ?_ (0, x) ⟨Nat.zero_le _, rfl⟩
  rintro ⟨i, m⟩ ⟨hi, hm⟩ next
  dsimp only at hi hm next
  have hcm := fun S (b : Rw) => refCompare (orc := orc) b.st m.st S
  simp only [St.c] at hcm
  unfold refT
  by_cases h1 : i < l.length
  · have at1 := rowsAt (l := x :: l) (i := i + 1) (by simpa using h1)
    have at2 := rowSt (l := x :: l) (i := i + 1) (by simpa using h1)
    simp only [List.getElem_cons_succ, List.length_cons, Rw.c, St.c] at at1 at2
    rw [List.drop_eq_getElem_cons h1, leastR] at hm
    have dl : decide (((i + 1 : Nat) : Int) < ((l.length + 1 : Nat) : Int)) = true := by simp; omega
    by_cases hc : cmpSt l[i].st m.st < 0
    · rw [if_pos hc] at hm
      repeat' (first|refine Go.a rfl ?_|refine Go.rg ?_|refine GoR.nil ?_|refine Go.ret ?_|refine Go.b rfl ?_|refine Go.rgS dmx (by decide) ?_|(refine GoR.o (by rfl) (by rfl) ?_;(conv => arg 1;simp only [G,Z,Y,Gx,un_neg,cutD,decide_true,decide_false,simprocAttr,fb2,fb3,fb9,fb28,fb30,fb41,fb42,fb44,dl, at1, at2, hc, Rw.c, List.length_cons, wrap_succ (show i + 1 < 4611686018427387904 by omega)]);show GoR ..)|(refine GoR.c c52 (by rfl) (by rfl) rfl ?_;(refine (hcm _ l[i]).ret ?_))|refine Go.condB rfl (fun hc => ?_) (fun hc => ?_))
      refine Go.lpN ?_
      refine Go.keep [(1, .ptr S.length 0), (2, .ptr (S.length + 1) 0), (3, .ptr (S.length + 2) 0), (4, .int .i64 ((i + 1 + 1 : Nat) : Int))] (.cons .refl (.cons .refl (.cons .refl (.cons .refl (.nil))))) ?_
      exact next (i + 1, l[i]) (by dsimp only; omega) ⟨h1, hm⟩
    · rw [if_neg hc] at hm
      repeat' (first|refine Go.a rfl ?_|refine Go.rg ?_|refine GoR.nil ?_|refine Go.ret ?_|refine Go.b rfl ?_|refine Go.rgS dmx (by decide) ?_|(refine GoR.o (by rfl) (by rfl) ?_;(conv => arg 1;simp only [G,Z,Y,Gx,un_neg,cutD,decide_true,decide_false,simprocAttr,fb2,fb3,fb9,fb28,fb30,fb41,fb42,fb44,dl, at1, at2, hc, Rw.c, List.length_cons, wrap_succ (show i + 1 < 4611686018427387904 by omega)]);show GoR ..)|(refine GoR.c c52 (by rfl) (by rfl) rfl ?_;(refine (hcm _ l[i]).ret ?_))|refine Go.condB rfl (fun hc => ?_) (fun hc => ?_))
      refine Go.lpN ?_
      refine Go.keep [(1, .ptr S.length 0), (2, .ptr (S.length + 1) 0), (3, .ptr (S.length + 2) 0), (4, .int .i64 ((i + 1 + 1 : Nat) : Int))] (.cons .refl (.cons .refl (.cons .refl (.cons .refl (.nil))))) ?_
      exact next (i + 1, m) (by dsimp only; omega) ⟨h1, hm⟩
  · clear next
    have dl : decide (((i + 1 : Nat) : Int) < ((l.length + 1 : Nat) : Int)) = false := by simp; omega
    rw [List.drop_of_length_le (by omega), leastR] at hm
    subst hm
    repeat' (first|refine Go.a rfl ?_|refine Go.rg ?_|refine GoR.nil ?_|refine Go.ret ?_|refine Go.b rfl ?_|refine Go.rgS dmx (by decide) ?_|(refine GoR.o (by rfl) (by rfl) ?_;(conv => arg 1;simp only [G,Z,Y,Gx,un_neg,cutD,decide_true,decide_false,simprocAttr,fb2,fb3,fb9,fb28,fb30,fb41,fb42,fb44,dl, Rw.c, zRow, List.length_cons]);show GoR ..)|refine Go.condB rfl (fun hc => ?_) (fun hc => ?_))
    refine ⟨(by first | exact .inl rfl | exact .inr rfl), fin ?_⟩
    rw [resD_cell (fn := Tryz.f53) rfl]
    simp only [optThen_some,resultD_tmp,resultD_cell,G,Z,Y,Gx,un_neg,cutD,decide_true,decide_false,simprocAttr,fb2,fb3,fb9,fb28,fb30,fb41,fb42,fb44]
    exact ⟨_, _, rfl, .of_low (.agg' (row_low _)), rfl⟩
end Go.Proofs.DtT
