/- Which names may be. -/
import Derived.Test.YtpdnaoahghfaoaaGreatDoorDeL8
set_option linter.unusedSimpArgs false
set_option linter.unusedVariables false
namespace Go.Proofs.DeT
open Go Go.DM
set_option maxRecDepth 10000
variable {orc : DOracle}

def lowB (b : UInt8) : Bool := decide (97 ≤ b.toNat) && decide (b.toNat ≤ 122)
def digB (b : UInt8) : Bool := decide (48 ≤ b.toNat) && decide (b.toNat ≤ 57)
def nameOk (s : ByteArray) : Bool := decide (1 ≤ s.size) && decide (s.size ≤ 8) && s.data[0]?.any lowB && s.data.toList.all (fun b => lowB b || digB b)
theorem bytes_false {p : UInt8 → Bool} {s : ByteArray} {i : Nat} (h : i < s.size) (hp : p (s.data[i]'h) = false) : s.data.toList.all p = false := by
  rw [List.all_eq_false]
  exact ⟨_, List.getElem_mem (l := s.data.toList) (by simpa using h), by simp [hp]⟩
theorem bytes_true {p : UInt8 → Bool} {s : ByteArray} (h : ∀ i (h : i < s.size), p (s.data[i]'h) = true) : s.data.toList.all p = true := by
  rw [List.all_eq_true]
  intro x hx
  obtain ⟨j, hj, rfl⟩ := List.mem_iff_getElem.1 hx
  simpa using h j (by simpa using hj)

theorem refName (s : ByteArray) (hs : s.size < 4611686018427387904) (S : Mem) : CallD Tryz.prog orc 34 [.str s] S fun d S' => S' = S ∧ d = .bool (nameOk s) := by
  refine CallD.e Tryz.func34 rfl Tryz.ntmps34 (by rfl) ?_
  by_cases h0 : s.size = 0
  · repeat' (first|refine Go.a rfl ?_|refine Go.rg ?_|refine GoR.nil ?_|refine Go.ret ?_|refine Go.b rfl ?_|(refine GoR.o (by rfl) (by rfl) ?_;(conv => arg 1;simp only [G,Z,Y,Gx,un_neg,cutD,decide_true,decide_false,simprocAttr,fb3,fb5,fb9,h0, show (decide (((0 : Nat) : Int) < 1)) = true by decide]);show GoR ..)|refine GoR.s (by rfl) rfl rfl ?_|(refine GoR.splitG rfl (fun hc => ?_) (fun hc => ?_) <;> simp only [hc])|refine Go.condB rfl (fun hc => ?_) (fun hc => ?_))
    refine ⟨(by first | exact .inl rfl | exact .inr rfl), fin ?_⟩
    rw [resD_tmp (fn := Tryz.f34) rfl]
    simp only [optThen_some,resultD_tmp,resultD_cell,G,Z,Y,Gx,un_neg,cutD,decide_true,decide_false,simprocAttr,fb3,fb5,fb9]
    exact ⟨_, [], by simp, .bool, by simp [nameOk, h0]⟩
  · have h1 : 0 < s.size := by omega
    repeat' (first|refine Go.a rfl ?_|refine Go.rg ?_|refine GoR.nil ?_|refine Go.ret ?_|refine Go.b rfl ?_|(refine GoR.o (by rfl) (by rfl) ?_;(conv => arg 1;simp only [G,Z,Y,Gx,un_neg,cutD,decide_true,decide_false,simprocAttr,fb3,fb5,fb9,indexStr_zero h1, show (decide ((s.size : Int) < 1)) = false by simp; omega]);show GoR ..)|refine GoR.s (by rfl) rfl rfl ?_|(refine GoR.splitG rfl (fun hc => ?_) (fun hc => ?_) <;> simp only [hc])|refine Go.condB rfl (fun hc => ?_) (fun hc => ?_))
    rotate_right
    · refine Go.keep [(0, .str s), (3, .int .i64 ((0 : Nat) : Int))] (.cons .refl (.cons .refl (.nil))) ?_
      refine Go.while (α := Nat) (fun i => s.size - i) (fun i => [(0, .str s), (3, .int .i64 (i : Int))]) (fun _ => S) (fun i => i ≤ s.size ∧ ∀ j (h : j < s.size), j < i → (lowB (s.data[j]'h) || digB (s.data[j]'h)) = true) ?_ 0 ⟨Nat.zero_le _, by simp⟩
      rintro i ⟨hi, hk⟩ next
      repeat' (first|refine Go.a rfl ?_|refine Go.rg ?_|refine GoR.nil ?_|refine Go.ret ?_|refine Go.b rfl ?_|(refine GoR.o (by rfl) (by rfl) ?_;(conv => arg 1;simp only [G,Z,Y,Gx,un_neg,cutD,decide_true,decide_false,simprocAttr,fb3,fb5,fb9]);show GoR ..)|refine GoR.s (by rfl) rfl rfl ?_|(refine GoR.splitG rfl (fun hc => ?_) (fun hc => ?_) <;> simp only [hc])|refine Go.condB rfl (fun hc => ?_) (fun hc => ?_))
      · have h2 : i < s.size := by simpa using hc
        repeat' (first|refine Go.a rfl ?_|refine Go.rg ?_|refine GoR.nil ?_|refine Go.ret ?_|refine Go.b rfl ?_|(refine GoR.o (by rfl) (by rfl) ?_;(conv => arg 1;simp only [G,Z,Y,Gx,un_neg,cutD,decide_true,decide_false,simprocAttr,fb3,fb5,fb9,indexStr_cast h2, wrap_succ (show i < 4611686018427387904 by omega)]);show GoR ..)|refine GoR.s (by rfl) rfl rfl ?_|(refine GoR.splitG rfl (fun hc => ?_) (fun hc => ?_) <;> simp only [hc])|refine Go.condB rfl (fun hc => ?_) (fun hc => ?_))
        all_goals first
          | (refine Go.lpN ?_
             refine Go.keep [(0, .str s), (3, .int .i64 ((i + 1 : Nat) : Int))] (.cons .refl (.cons .refl (.nil))) ?_
             refine next (i + 1) (by omega) ⟨h2, fun j hj hlt => ?_⟩
             clear next
             rcases Nat.lt_or_ge j i with h | h
             · exact hk j hj h
             · obtain rfl : j = i := by omega
               clear hk
               simp [lowB, digB] at *
               omega)
          | (clear next
             refine ⟨(by first | exact .inl rfl | exact .inr rfl), fin ?_⟩
             rw [resD_tmp (fn := Tryz.f34) rfl]
             simp only [optThen_some,resultD_tmp,resultD_cell,G,Z,Y,Gx,un_neg,cutD,decide_true,decide_false,simprocAttr,fb3,fb5,fb9]
             refine ⟨_, [], by simp, .bool, ?_⟩
             have hp : (fun b => lowB b || digB b) (s.data[i]'h2) = false := by
               clear hk
               simp [lowB, digB] at *
               omega
             simp only [nameOk, bytes_false (p := fun b => lowB b || digB b) h2 hp, Bool.and_false])
      · clear next
        refine ⟨(by first | exact .inl rfl | exact .inr rfl), fin ?_⟩
        rw [resD_tmp (fn := Tryz.f34) rfl]
        simp only [optThen_some,resultD_tmp,resultD_cell,G,Z,Y,Gx,un_neg,cutD,decide_true,decide_false,simprocAttr,fb3,fb5,fb9]
        refine ⟨_, [], by simp, .bool, ?_⟩
        rw [nameOk, bytes_true fun j hj => hk j hj (by simp at hc; omega)]
        have e : s.data[0]? = some (s.data[0]'h1) := Array.getElem?_eq_getElem h1
        simp [lowB, e] at *
        omega
    all_goals
      refine ⟨(by first | exact .inl rfl | exact .inr rfl), fin ?_⟩
      rw [resD_tmp (fn := Tryz.f34) rfl]
      simp only [optThen_some,resultD_tmp,resultD_cell,G,Z,Y,Gx,un_neg,cutD,decide_true,decide_false,simprocAttr,fb3,fb5,fb9]
      refine ⟨_, [], by simp, .bool, ?_⟩
      have e : s.data[0]? = some (s.data[0]'h1) := Array.getElem?_eq_getElem h1
      simp [nameOk, lowB, e] at *
      omega
end Go.Proofs.DeT
