/- The document's table: looked at. -/
import Derived.Test.YtlllhmenekibjaaGreatDoorDtT8x
import Derived.Test.YtlllhmenekibjaaGreatDoorDmOx
set_option linter.unusedSimpArgs false
set_option linter.unusedVariables false
namespace Go.Proofs.DtT
open Go Go.DM Go.Proofs.DtF
set_option maxRecDepth 100000
variable {orc : DOracle}

theorem rowKey {l : List Rw} {i : Nat} (h : i < l.length) : (rowsC l)[i * 6]? = some (.str l[i].key) := flat_cell0 row_len l i h (by omega)
theorem rowSt {l : List Rw} {i : Nat} (h : i < l.length) : ((i * 6 + 1 + 4 ≤ (rowsC l).length) = True) ∧ ((rowsC l).drop (i * 6 + 1)).take 4 = l[i].st.c := ⟨flat_fits row_len l i h (by omega), flat_part row_len l i h (by omega)⟩
end Go.Proofs.DtT

/- Few rows; what putting comes to, plainly. -/
namespace Go.Proofs.DtT
open Go Go.DM Go.Proofs.DtF
set_option maxRecDepth 100000
variable {orc : DOracle}

theorem fewRows (l : List Rw) (S : Mem) : CallD Tryz.prog orc 23 [.sl none 6 l.length (rowsC l)] S fun d S' => S' = S ∧ d = .bool (decide (l.length ≤ 70) && l.all fewR) := by
  refine CallD.e Tryz.func23 rfl Tryz.ntmps23 (by rfl) ?_
  by_cases h70 : l.length ≤ 70
  rotate_left
  · repeat' (first|refine Go.a rfl ?_|refine Go.rg ?_|refine GoR.nil ?_|refine Go.ret ?_|refine Go.b rfl ?_|(refine GoR.o (by rfl) (by rfl) ?_;(conv => arg 1;simp only [G,Z,Y,Gx,un_neg,cutD,decide_true,decide_false,simprocAttr,fb3,fb9,fb32,fb33,fb35,fb62,show decide (70 < (l.length : Int)) = true by simp; omega]);show GoR ..)|refine Go.condB rfl (fun hc => ?_) (fun hc => ?_))
    refine ⟨(by first | exact .inl rfl | exact .inr rfl), fin ?_⟩
    rw [resD_tmp (fn := Tryz.f23) rfl]
    simp only [optThen_some,resultD_tmp,resultD_cell,G,Z,Y,Gx,un_neg,cutD,decide_true,decide_false,simprocAttr,fb3,fb9,fb32,fb33,fb35,fb62]
    exact ⟨_, [], by simp, .bool, by simp [h70]⟩
  · repeat' (first|refine Go.a rfl ?_|refine Go.rg ?_|refine GoR.nil ?_|refine Go.ret ?_|refine Go.b rfl ?_|(refine GoR.o (by rfl) (by rfl) ?_;(conv => arg 1;simp only [G,Z,Y,Gx,un_neg,cutD,decide_true,decide_false,simprocAttr,fb3,fb9,fb32,fb33,fb35,fb62,show decide (70 < (l.length : Int)) = false by simp; omega]);show GoR ..)|refine Go.condB rfl (fun hc => ?_) (fun hc => ?_))
    refine Go.keep [(0, .sl none 6 l.length (rowsC l)), (3, .int .i64 ((0 : Nat) : Int))] (.cons .refl (.cons .refl (.nil))) ?_
    refine Go.while (α := Nat) (fun i => l.length - i) (fun i => [(0, .sl none 6 l.length (rowsC l)), (3, .int .i64 (i : Int))]) (fun _ => S) (fun i => i ≤ l.length ∧ ∀ j (h : j < l.length), j < i → fewR l[j] = true) ?_ 0 ⟨Nat.zero_le _, by simp⟩
    rintro i ⟨hi, hk⟩ next
    by_cases h1 : i < l.length
    · have dl : decide ((i : Int) < (l.length : Int)) = true := by simp; omega
      have at1 := rowsAt h1
      have hf := fun S => few4 (orc := orc) l[i] S
      cases hq : fewR l[i] with
      | false =>
        clear next
        rw [hq] at hf
        simp only [Rw.c] at hf at1
        repeat' (first|refine Go.a rfl ?_|refine Go.rg ?_|refine GoR.nil ?_|refine Go.ret ?_|refine Go.b rfl ?_|(refine GoR.o (by rfl) (by rfl) ?_;(conv => arg 1;simp only [G,Z,Y,Gx,un_neg,cutD,decide_true,decide_false,simprocAttr,fb3,fb9,fb32,fb33,fb35,fb62,dl, at1]);show GoR ..)|(refine GoR.c c9 (by rfl) (by rfl) rfl ?_;(refine (hf _).ret ?_))|refine Go.condB rfl (fun hc => ?_) (fun hc => ?_))
        refine ⟨(by first | exact .inl rfl | exact .inr rfl), fin ?_⟩
        rw [resD_tmp (fn := Tryz.f23) rfl]
        simp only [optThen_some,resultD_tmp,resultD_cell,G,Z,Y,Gx,un_neg,cutD,decide_true,decide_false,simprocAttr,fb3,fb9,fb32,fb33,fb35,fb62]
        refine ⟨_, [], by simp, .bool, ?_⟩
        rw [all_false_at h1 hq]
        simp
      | true =>
        rw [hq] at hf
        simp only [Rw.c] at hf at1
        repeat' (first|refine Go.a rfl ?_|refine Go.rg ?_|refine GoR.nil ?_|refine Go.ret ?_|refine Go.b rfl ?_|(refine GoR.o (by rfl) (by rfl) ?_;(conv => arg 1;simp only [G,Z,Y,Gx,un_neg,cutD,decide_true,decide_false,simprocAttr,fb3,fb9,fb32,fb33,fb35,fb62,dl, at1, wrap_succ (show i < 4611686018427387904 by omega)]);show GoR ..)|(refine GoR.c c9 (by rfl) (by rfl) rfl ?_;(refine (hf _).ret ?_))|refine Go.condB rfl (fun hc => ?_) (fun hc => ?_))
        refine Go.lpN ?_
        refine Go.keep [(0, .sl none 6 l.length (rowsC l)), (3, .int .i64 ((i + 1 : Nat) : Int))] (.cons .refl (.cons .refl (.nil))) ?_
        refine next (i + 1) (by omega) ⟨h1, fun j hj hlt => ?_⟩
        rcases Nat.lt_or_ge j i with h | h
        · exact hk j hj h
        · obtain rfl : j = i := by omega
          exact hq
    · clear next
      repeat' (first|refine Go.a rfl ?_|refine Go.rg ?_|refine GoR.nil ?_|refine Go.ret ?_|refine Go.b rfl ?_|(refine GoR.o (by rfl) (by rfl) ?_;(conv => arg 1;simp only [G,Z,Y,Gx,un_neg,cutD,decide_true,decide_false,simprocAttr,fb3,fb9,fb32,fb33,fb35,fb62,show decide ((i : Int) < (l.length : Int)) = false by simp; omega]);show GoR ..)|refine Go.condB rfl (fun hc => ?_) (fun hc => ?_))
      refine ⟨(by first | exact .inl rfl | exact .inr rfl), fin ?_⟩
      rw [resD_tmp (fn := Tryz.f23) rfl]
      simp only [optThen_some,resultD_tmp,resultD_cell,G,Z,Y,Gx,un_neg,cutD,decide_true,decide_false,simprocAttr,fb3,fb9,fb32,fb33,fb35,fb62]
      refine ⟨_, [], by simp, .bool, ?_⟩
      rw [all_true_of fun j hj => hk j hj (by omega)]
      simp [h70]
theorem fewR_ok {r : Rw} (h : fewR r = true) : FewR r ∧ OkR r := by
  simp only [fewR, Bool.and_eq_true, decide_eq_true_eq] at h
  obtain ⟨h1, h2, h3⟩ := h
  obtain ⟨h4, h5⟩ := fewA_size h3
  exact ⟨fewR_of (k := r.key) (st := r.st) (l := r.at_) (by omega) (by omega) h3, by omega, fun a ha => by have := h5 a ha; omega⟩
theorem sameA_self (a : Att) : sameA a a = true := by
  have h : cmpV a.v a.v = 0 := by
    have hl : ∀ l : List Int, cmpL l l = 0 := by
      intro l
      induction l with
      | nil => rfl
      | cons x l ih => simp [cmpL, cmpI, ih]
    have hb : ∀ s : ByteArray, cmpB s s = 0 := fun s => cmpB_zero.2 rfl
    unfold cmpV
    simp [cmpI, hl, hb, orI]
  unfold sameA
  simp [h]
theorem sameR_self (r : Rw) : sameR r r = true := by
  have hl : ∀ l : List Att, sameL l l = true := by
    intro l
    induction l with
    | nil => rfl
    | cons a l ih => simp [sameL, sameA_self, ih]
  have hs : cmpSt r.st r.st = 0 := by
    have hb : ∀ s : ByteArray, cmpB s s = 0 := fun s => cmpB_zero.2 rfl
    unfold cmpSt
    simp [cmpI, hb, orI]
  unfold sameR
  simp [hl, hs]
def ltSt (a b : St) : Prop := a.tick < b.tick ∨ (a.tick = b.tick ∧ (a.inc < b.inc ∨ (a.inc = b.inc ∧ (a.seq < b.seq ∨ (a.seq = b.seq ∧ ltB a.org b.org = true)))))
theorem cmpSt_cases (a b : St) : (cmpSt a b = -1 ∧ ltSt a b) ∨ (cmpSt a b = 0 ∧ a = b) ∨ (cmpSt a b = 1 ∧ ltSt b a) := by
  obtain ⟨a1, a2, a3, a4⟩ := a
  obtain ⟨b1, b2, b3, b4⟩ := b
  have key : ∀ x y : Int, (cmpI x y = -1 ∧ x < y) ∨ (cmpI x y = 0 ∧ x = y) ∨ (cmpI x y = 1 ∧ y < x) := by
    intro x y
    unfold cmpI
    rcases Int.lt_trichotomy x y with h | h | h
    · exact .inl ⟨by rw [if_pos h], h⟩
    · exact .inr (.inl ⟨by rw [if_neg (by omega), if_neg (by omega)], h⟩)
    · exact .inr (.inr ⟨by rw [if_neg (by omega), if_pos h], h⟩)
  have keyB : (cmpB a4 b4 = -1 ∧ ltB a4 b4 = true) ∨ (cmpB a4 b4 = 0 ∧ a4 = b4) ∨ (cmpB a4 b4 = 1 ∧ ltB b4 a4 = true) := by
    unfold cmpB
    rcases ltB_total a4 b4 with h | h | h
    · exact .inl ⟨by rw [if_pos h], h⟩
    · subst h
      exact .inr (.inl ⟨by rw [if_neg (by rw [ltB_irrefl]; decide), if_pos rfl], rfl⟩)
    · have h1 := ltB_asymm h
      refine .inr (.inr ⟨?_, h⟩)
      rw [if_neg (by rw [h1]; decide), if_neg]
      rintro rfl
      rw [ltB_irrefl] at h
      cases h
  simp only [cmpSt, orI, ltSt, St.mk.injEq]
  rcases key a1 b1 with ⟨e1, h1⟩ | ⟨e1, h1⟩ | ⟨e1, h1⟩ <;> rw [e1]
  · simp [h1]
  · subst h1
    rcases key a2 b2 with ⟨e2, h2⟩ | ⟨e2, h2⟩ | ⟨e2, h2⟩ <;> rw [e2]
    · simp [h2]
    · subst h2
      rcases key a3 b3 with ⟨e3, h3⟩ | ⟨e3, h3⟩ | ⟨e3, h3⟩ <;> rw [e3]
      · simp [h3]
      · subst h3
        rcases keyB with ⟨e4, h4⟩ | ⟨e4, h4⟩ | ⟨e4, h4⟩ <;> rw [e4]
        · simp [h4]
        · simp [h4]
        · simp [h4]
      · simp [h3]
    · simp [h2]
  · simp [h1]
theorem ltSt_trans {a b c : St} (h : ltSt a b) (k : ltSt b c) : ltSt a c := by
  unfold ltSt at *
  rcases h with h | ⟨h1, h | ⟨h2, h | ⟨h3, h⟩⟩⟩ <;> rcases k with k | ⟨k1, k | ⟨k2, k | ⟨k3, k⟩⟩⟩ <;>
    first
      | (exact .inr ⟨by omega, .inr ⟨by omega, .inr ⟨by omega, ltB_trans h k⟩⟩⟩)
      | (exact .inl (by omega))
      | (exact .inr ⟨by omega, .inl (by omega)⟩)
      | (exact .inr ⟨by omega, .inr ⟨by omega, .inl (by omega)⟩⟩)
theorem ltSt_irrefl (a : St) : ¬ ltSt a a := by
  unfold ltSt
  rw [ltB_irrefl]
  rintro (h | ⟨_, h | ⟨_, h | ⟨_, h⟩⟩⟩)
  · omega
  · omega
  · omega
  · cases h
theorem cmpSt_pos {a b : St} : 0 < cmpSt a b ↔ ltSt b a := by
  rcases cmpSt_cases a b with ⟨e, h⟩ | ⟨e, h⟩ | ⟨e, h⟩ <;> rw [e]
  · exact ⟨fun h => by omega, fun k => absurd (ltSt_trans h k) (ltSt_irrefl _)⟩
  · subst h
    exact ⟨fun h => by omega, fun k => absurd k (ltSt_irrefl _)⟩
  · exact ⟨fun _ => h, fun _ => by omega⟩
theorem cmpSt_zero {a b : St} : cmpSt a b = 0 ↔ a = b := by
  rcases cmpSt_cases a b with ⟨e, h⟩ | ⟨e, h⟩ | ⟨e, h⟩ <;> rw [e]
  · exact ⟨fun h => by omega, fun k => absurd (k ▸ h) (ltSt_irrefl _)⟩
  · exact ⟨fun _ => h, fun _ => rfl⟩
  · exact ⟨fun h => by omega, fun k => absurd (k ▸ h) (ltSt_irrefl _)⟩
theorem ltSt_total (a b : St) : ltSt a b ∨ a = b ∨ ltSt b a := by
  rcases cmpSt_cases a b with ⟨_, h⟩ | ⟨_, h⟩ | ⟨_, h⟩
  · exact .inl h
  · exact .inr (.inl h)
  · exact .inr (.inr h)
end Go.Proofs.DtT
