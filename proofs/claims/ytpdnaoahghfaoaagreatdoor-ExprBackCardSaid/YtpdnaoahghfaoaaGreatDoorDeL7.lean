/- All words of a text, by the document. -/
import Derived.Test.YtpdnaoahghfaoaaGreatDoorDeL6
set_option linter.unusedSimpArgs false
set_option linter.unusedVariables false
namespace Go.Proofs.DeT
open Go Go.DM
set_option maxRecDepth 100000
variable {orc : DOracle}

def sgnB : ByteArray := (⟨#[40, 41, 44, 61, 60, 62, 43, 45, 42, 47, 37]⟩ : ByteArray)
theorem sgnB_at {i : Nat} (h : i < 11) : sgnB.data[i]'(show i < 11 from h) = sgnL[i]'(show i < 11 from h) := by
  have : ∀ i : Fin 11, sgnB.data[i.1]'(show i.1 < 11 from i.2) = sgnL[i.1]'(show i.1 < 11 from i.2) := by decide
  exact this ⟨i, h⟩
/-- The sign that a text begins with. -/
def signU (u : ByteArray) (b : UInt8) : ByteArray := if (b = 33 ∨ b = 60 ∨ b = 62) ∧ u.data[1]? = some 61 then u.extract 0 2 else if b ∈ sgnL then u.extract 0 1 else ⟨#[]⟩
set_option maxHeartbeats 1000000 in
theorem refSign (u : ByteArray) (h0 : 0 < u.size) (hs : u.size < 1000000) (S : Mem) : CallD Tryz.prog orc 91 [.str u] S fun d S' => S' = S ∧ d = .str (signU u (u.data[0]'h0)) := by
  have hix := fun {k : IntKind} {S : Mem} => indexStr_zero (s := u) (k := k) (S := S) h0
  have q1 : ∀ (x : UInt8) (n : Int), (x.toNat : Int) = n → (((u.data[0]'h0).toNat : Int) == n) = decide (u.data[0]'h0 = x) := fun x n hx => by
    rw [Bool.eq_iff_iff, beq_iff_eq, decide_eq_true_iff, ← UInt8.toNat_inj, ← hx]
    omega
  have q33 := q1 33 33 rfl
  have q60 := q1 60 60 rfl
  have q62 := q1 62 62 rfl
  unfold signU
  generalize hb : u.data[0]'h0 = b at *
  by_cases h2 : (b = 33 ∨ b = 60 ∨ b = 62) ∧ u.data[1]? = some 61
  · rw [if_pos h2]
    have hsz : 1 < u.size := by
      by_cases h : 1 < u.size
      · exact h
      · have : u.data[1]? = none := Array.getElem?_eq_none (by show u.data.size ≤ _; have : u.data.size = u.size := rfl; omega)
        rw [this] at h2
        cases h2.2
    have h61 : u.data[1]'hsz = 61 := by have := h2.2; rw [Array.getElem?_eq_getElem hsz, Option.some.injEq] at this; exact this
    have hi1 : ∀ {k : IntKind} {S : Mem}, indexStr (.str u) (.int k 1) S = some (.int .u8 61, S) := fun {k S} => by have := indexStr_cast (s := u) (n := 1) (k := k) (S := S) hsz; rw [h61] at this; exact this
    have d1 : decide (2 ≤ (u.size : Int)) = true := by rw [decide_eq_true_iff]; omega
    have c2 : (2 ≤ u.size) = True := by simp; omega
    refine CallD.e Tryz.func91 rfl Tryz.ntmps91 (by rfl) ?_
    cases k1 : decide (b = 33) <;> cases k2 : decide (b = 60) <;> cases k3 : decide (b = 62)
    all_goals first
      | (exfalso
         simp only [decide_eq_false_iff_not] at k1 k2 k3
         rcases h2.1 with h | h | h
         · exact k1 h
         · exact k2 h
         · exact k3 h
         done)
      | (rw [k1] at q33
         rw [k2] at q60
         rw [k3] at q62
         repeat' (first|refine Go.a rfl ?_|refine Go.rg ?_|refine GoR.nil ?_|refine Go.ret ?_|refine Go.b rfl ?_|refine Go.rgS dmx (by decide) ?_|(refine GoR.o (by rfl) (by rfl) ?_;(conv => arg 1;simp only [G,Z,Y,Gx,un_neg,cutD,decide_true,decide_false,simprocAttr,fb3,fb5,fb9,hix, hi1, d1, c2, ge_iff_le, q33, q60, q62, hb, natD_nn (show (0 : Int) ≤ 2 by decide), Option.map_some, Option.map_none, optNatD_some, optNatD_none, Option.getD_some, Option.getD_none, Nat.zero_le, true_and, Int.reduceLE, Option.bind_some]);show GoR ..)|refine GoR.s (by rfl) rfl rfl ?_|(refine GoR.splitG rfl (fun hc => ?_) (fun hc => ?_) <;> simp only [hc])|refine Go.condB rfl (fun hc => ?_) (fun hc => ?_))
         refine ⟨(by first | exact .inl rfl | exact .inr rfl), fin ?_⟩
         rw [resD_tmp (fn := Tryz.f91) rfl]
         simp only [optThen_some,resultD_tmp,resultD_cell,G,Z,Y,Gx,un_neg,cutD,decide_true,decide_false,simprocAttr,fb3,fb5,fb9]
         exact ⟨_, [], by simp, .str, rfl⟩)
  · rw [if_neg h2]
    have hmain : ∀ (t12 : Bool), t12 = false → True := fun _ _ => trivial
    clear hmain
    have z0 : decide (2 ≤ (u.size : Int)) = false ∨ ∃ h : 1 < u.size, decide (2 ≤ (u.size : Int)) = true ∧ ((((u.data[1]'h).toNat : Int) == 61) = false ∨ ((((u.data[1]'h).toNat : Int) == 61) = true ∧ decide (b = 33) = false ∧ decide (b = 60) = false ∧ decide (b = 62) = false)) := by
      by_cases hsz : 1 < u.size
      · refine .inr ⟨hsz, by rw [decide_eq_true_iff]; omega, ?_⟩
        cases h61 : (((u.data[1]'hsz).toNat : Int) == 61) with
        | false => exact .inl rfl
        | true =>
          have e : u.data[1]? = some 61 := by
            rw [beq_iff_eq] at h61
            rw [Array.getElem?_eq_getElem hsz, Option.some.injEq]
            exact UInt8.toNat_inj.1 (show _ = (61 : UInt8).toNat by simp; omega)
          refine .inr ⟨rfl, ?_, ?_, ?_⟩ <;> rw [decide_eq_false_iff_not] <;> intro hb' <;> exact h2 ⟨by simp [hb'], e⟩
      · exact .inl (by rw [decide_eq_false_iff_not]; omega)
    have loop : ∀ (k : List AM.K) (c : Code) (Q : AM.AExit → DEnv → Mem → Prop) (fl sz : Nat), True := fun _ _ _ _ _ => trivial
    clear loop
    have hK : ∀ {k : IntKind} {S : Mem} {i : Nat} (h : i < 11), indexStr (.str (⟨#[40, 41, 44, 61, 60, 62, 43, 45, 42, 47, 37]⟩ : ByteArray)) (.int k (i : Int)) S = some (.int .u8 ((sgnL[i]'(show i < 11 from h)).toNat : Int), S) := fun {k S i} h => by
      have := indexStr_cast (s := sgnB) (n := i) (k := k) (S := S) (show i < 11 from h)
      rw [sgnB_at h] at this
      exact this
    refine CallD.e Tryz.func91 rfl Tryz.ntmps91 (by rfl) ?_
    have c1 : (1 ≤ u.size) = True := by simp; omega
    have hKs : (((⟨#[40, 41, 44, 61, 60, 62, 43, 45, 42, 47, 37]⟩ : ByteArray)).size : Int) = 11 := rfl
    rcases z0 with z0 | ⟨hsz, z0, z1 | ⟨z1, z2, z3, z4⟩⟩
    all_goals first | have hi1 : ∀ {k : IntKind} {S : Mem}, indexStr (.str u) (.int k 1) S = some (.int .u8 ((u.data[1]'hsz).toNat : Int), S) := fun {k S} => indexStr_cast (s := u) (n := 1) (k := k) (S := S) hsz | have hi1 := z0
    all_goals first | have y1 := z1 | have y1 := z0
    all_goals first | have y2 := q33.trans z2 | have y2 := z0
    all_goals first | have y3 := q60.trans z3 | have y3 := z0
    all_goals first | have y4 := q62.trans z4 | have y4 := z0
    all_goals
      repeat' (first|refine Go.a rfl ?_|refine Go.rg ?_|refine GoR.nil ?_|refine Go.ret ?_|refine Go.b rfl ?_|refine Go.rgS dmx (by decide) ?_|(refine GoR.o (by rfl) (by rfl) ?_;(conv => arg 1;simp only [G,Z,Y,Gx,un_neg,cutD,decide_true,decide_false,simprocAttr,fb3,fb5,fb9,hix, z0, y1, y2, y3, y4, hi1, ge_iff_le, hb]);show GoR ..)|refine GoR.s (by rfl) rfl rfl ?_|(refine GoR.splitG rfl (fun hc => ?_) (fun hc => ?_) <;> simp only [hc])|refine Go.condB rfl (fun hc => ?_) (fun hc => ?_))
      refine Go.keep [(0, .str u), (3, .str (⟨#[40, 41, 44, 61, 60, 62, 43, 45, 42, 47, 37]⟩ : ByteArray)), (4, .int .i64 ((0 : Nat) : Int))] (.cons .refl (.cons .refl (.cons .refl (.nil)))) ?_
      refine Go.while (α := Nat) (fun i => 11 - i) (fun i => [(0, .str u), (3, .str (⟨#[40, 41, 44, 61, 60, 62, 43, 45, 42, 47, 37]⟩ : ByteArray)), (4, .int .i64 (i : Int))]) (fun _ => S) (fun i => i ≤ 11 ∧ ∀ j (h : j < 11), j < i → ¬ sgnL[j]'(show j < 11 from h) = b) ?_ 0 ⟨Nat.zero_le _, by simp⟩
      rintro i ⟨hi, hk⟩ next
      by_cases h1 : i < 11
      · have e1 : decide ((i : Int) < 11) = true := by rw [decide_eq_true_iff]; omega
        have hKi := fun {k : IntKind} {S : Mem} => hK (k := k) (S := S) h1
        have hmem : sgnL[i]'(show i < 11 from h1) ∈ sgnL := List.getElem_mem _
        generalize hxe : sgnL[i]'(show i < 11 from h1) = x at *
        cases hx : ((b.toNat : Int) == (x.toNat : Int)) with
        | true =>
          have hbx : b = x := by rw [beq_iff_eq] at hx; exact UInt8.toNat_inj.1 (by omega)
          subst hbx
          rw [if_pos hmem]
          repeat' (first|refine Go.a rfl ?_|refine Go.rg ?_|refine GoR.nil ?_|refine Go.ret ?_|refine Go.b rfl ?_|refine Go.rgS dmx (by decide) ?_|(refine GoR.o (by rfl) (by rfl) ?_;(conv => arg 1;simp only [G,Z,Y,Gx,un_neg,cutD,decide_true,decide_false,simprocAttr,fb3,fb5,fb9,hix, hb, hKs, e1, hKi, hx, c1, natD_nn (show (0 : Int) ≤ 1 by decide), Option.map_some, Option.map_none, optNatD_some, optNatD_none, Option.getD_some, Option.getD_none, Nat.zero_le, true_and, Option.bind_some]);show GoR ..)|refine GoR.s (by rfl) rfl rfl ?_|(refine GoR.splitG rfl (fun hc => ?_) (fun hc => ?_) <;> simp only [hc])|refine Go.condB rfl (fun hc => ?_) (fun hc => ?_))
          clear next
          refine ⟨(by first | exact .inl rfl | exact .inr rfl), fin ?_⟩
          rw [resD_tmp (fn := Tryz.f91) rfl]
          simp only [optThen_some,resultD_tmp,resultD_cell,G,Z,Y,Gx,un_neg,cutD,decide_true,decide_false,simprocAttr,fb3,fb5,fb9]
          exact ⟨_, [], by simp, .str, rfl⟩
        | false =>
          repeat' (first|refine Go.a rfl ?_|refine Go.rg ?_|refine GoR.nil ?_|refine Go.ret ?_|refine Go.b rfl ?_|refine Go.rgS dmx (by decide) ?_|(refine GoR.o (by rfl) (by rfl) ?_;(conv => arg 1;simp only [G,Z,Y,Gx,un_neg,cutD,decide_true,decide_false,simprocAttr,fb3,fb5,fb9,hix, hb, hKs, e1, hKi, hx, wrap_succ (show i < 4611686018427387904 by omega)]);show GoR ..)|refine GoR.s (by rfl) rfl rfl ?_|(refine GoR.splitG rfl (fun hc => ?_) (fun hc => ?_) <;> simp only [hc])|refine Go.condB rfl (fun hc => ?_) (fun hc => ?_))
          refine Go.lpN ?_
          refine Go.keep [(0, .str u), (3, .str (⟨#[40, 41, 44, 61, 60, 62, 43, 45, 42, 47, 37]⟩ : ByteArray)), (4, .int .i64 ((i + 1 : Nat) : Int))] (.cons .refl (.cons .refl (.cons .refl (.nil)))) ?_
          refine next (i + 1) (by omega) ⟨h1, fun j hj hlt => ?_⟩
          rcases Nat.lt_or_ge j i with h | h
          · exact hk j hj h
          · obtain rfl : j = i := by omega
            rw [hxe]
            rintro rfl
            rw [beq_eq_false_iff_ne] at hx
            exact hx rfl
      · have e1 : decide ((i : Int) < 11) = false := by rw [decide_eq_false_iff_not]; omega
        clear next
        have hno : ¬ b ∈ sgnL := by
          intro h
          obtain ⟨j, hj, e⟩ := List.mem_iff_getElem.1 h
          exact hk j hj (by have : j < 11 := hj; omega) e
        rw [if_neg hno]
        repeat' (first|refine Go.a rfl ?_|refine Go.rg ?_|refine GoR.nil ?_|refine Go.ret ?_|refine Go.b rfl ?_|refine Go.rgS dmx (by decide) ?_|(refine GoR.o (by rfl) (by rfl) ?_;(conv => arg 1;simp only [G,Z,Y,Gx,un_neg,cutD,decide_true,decide_false,simprocAttr,fb3,fb5,fb9,hKs, e1]);show GoR ..)|refine GoR.s (by rfl) rfl rfl ?_|(refine GoR.splitG rfl (fun hc => ?_) (fun hc => ?_) <;> simp only [hc])|refine Go.condB rfl (fun hc => ?_) (fun hc => ?_))
        refine ⟨(by first | exact .inl rfl | exact .inr rfl), fin ?_⟩
        rw [resD_tmp (fn := Tryz.f91) rfl]
        simp only [optThen_some,resultD_tmp,resultD_cell,G,Z,Y,Gx,un_neg,cutD,decide_true,decide_false,simprocAttr,fb3,fb5,fb9]
        exact ⟨_, [], by simp, .str, rfl⟩
end Go.Proofs.DeT
