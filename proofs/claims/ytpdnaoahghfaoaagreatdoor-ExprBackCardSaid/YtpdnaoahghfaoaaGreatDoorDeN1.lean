/- How many nodes a tree has, as the law counts them. -/
import Derived.Test.YtpdnaoahghfaoaaGreatDoorDeC8
set_option linter.unusedSimpArgs false
set_option linter.unusedVariables false
namespace Go.Proofs.DeT
open Go Go.DM
set_option maxRecDepth 100000
variable {orc : DOracle}

theorem add_cast {i j : Nat} (h : i + j < 4611686018427387904) : IntKind.i64.wrap ((i : Int) + (j : Int)) = ((i + j : Nat) : Int) := by rw [wrap64 (by omega) (by omega)]; omega
/-- How many nodes there are. -/
def cnt : Nd → Nat
  | .mk _ _ _ ks => 1 + (ks.attach.map fun ⟨k, _⟩ => cnt k).sum
termination_by n => SizeOf.sizeOf n
decreasing_by exact Nd.kid_lt ‹_›
def cnts (ks : List Nd) : Nat := (ks.map cnt).sum
theorem cnt_mk {op nm : ByteArray} {n : Int} {ks : List Nd} : cnt (.mk op nm n ks) = 1 + cnts ks := by
  rw [cnt, cnts]
  simp
theorem cnts_succ {ks : List Nd} {i : Nat} (h : i < ks.length) : cnts (ks.take (i + 1)) = cnts (ks.take i) + cnt ks[i] := by
  rw [← List.take_append_getElem h]
  simp only [cnts, List.map_append, List.sum_append, List.map_cons, List.map_nil, List.sum_cons, List.sum_nil, Nat.add_zero]

/-- What is left of a count is no more than what was, but one; and if it is something, the tree has few. -/
theorem left (n : Nd) : ∀ (k : Int) (_ : 0 ≤ k) (_ : k ≤ 100) (S : Mem), CallD Tryz.prog orc 94 [.agg n.c, .int .i64 k] S fun d S' => S' = S ∧ ∃ r : Int, d = .int .i64 r ∧ -1 ≤ r ∧ r ≤ k - 1 ∧ (0 ≤ r → Slim 100 n ∧ (cnt n : Int) ≤ k - r) := by
  induction n using Nd.ind with
  | h op nm n ks ih =>
    intro k hk0 hk1 S
    rw [Nd.c_mk]
    refine CallD.e Tryz.func94 rfl Tryz.ntmps94 (by rfl) ?_
    repeat' (first|refine Go.a rfl ?_|refine Go.rg ?_|refine GoR.nil ?_|refine Go.ret ?_|refine Go.b rfl ?_|(refine GoR.o (by rfl) (by rfl) ?_;(conv => arg 1;simp only [G,Z,Y,Gx,un_neg,cutD,decide_true,decide_false,simprocAttr,fb2,fb3,fb9,fb73,fb75,wrap_pred (show -100 ≤ k by omega) (show k ≤ 1000 by omega)]);show GoR ..)|refine GoR.s (by rfl) rfl rfl ?_|(refine GoR.splitG rfl (fun hc => ?_) (fun hc => ?_) <;> simp only [hc])|refine Go.condB rfl (fun hc => ?_) (fun hc => ?_))
    all_goals first
      | (skip
         refine ⟨(by first | exact .inl rfl | exact .inr rfl), fin ?_⟩
         rw [resD_tmp (fn := Tryz.f94) rfl]
         simp only [optThen_some,resultD_tmp,resultD_cell,G,Z,Y,Gx,un_neg,cutD,decide_true,decide_false,simprocAttr,fb2,fb3,fb9,fb73,fb75]
         exact ⟨_, _, rfl, .int, _, rfl, by omega, by omega, by omega⟩)
      | skip
    have hnm : nm.size ≤ 100 := by rename_i hq; simp at hq; omega
    refine Go.keep [(1, .int .i64 (k - 1)), (2, .ptr S.length 0), (5, .int .i64 ((0 : Nat) : Int))] (.cons .refl (.cons .refl (.cons .refl (.nil)))) ?_
    refine Go.while (α := Nat × Int) (fun a => ks.length - a.1) (fun a => [(1, .int .i64 a.2), (2, .ptr S.length 0), (5, .int .i64 (a.1 : Int))]) (fun _ => S ++ [.obj [.str op, .str nm, .int .i64 n, .sl none 4 ks.length (ndsC ks)]])
      (fun a => a.1 ≤ ks.length ∧ -1 ≤ a.2 ∧ a.2 ≤ k - 1 - a.1 ∧ (0 ≤ a.2 → (∀ j (h : j < ks.length), j < a.1 → Slim 100 ks[j]) ∧ (cnts (ks.take a.1) : Int) ≤ k - 1 - a.2)) ?_ (0, k - 1) ⟨Nat.zero_le _, by dsimp only; omega, by dsimp only; omega, by simp [cnts]⟩
    rintro ⟨i, c⟩ ⟨hi, hc1, hc2, hs⟩ next
    dsimp only at hi hc1 hc2 hs next
    by_cases hl : i < ks.length
    · by_cases h0 : 0 ≤ c
      · repeat' (first|refine Go.a rfl ?_|refine Go.rg ?_|refine GoR.nil ?_|refine Go.ret ?_|refine Go.b rfl ?_|(refine GoR.o (by rfl) (by rfl) ?_;(conv => arg 1;simp only [G,Z,Y,Gx,un_neg,cutD,decide_true,decide_false,simprocAttr,fb2,fb3,fb9,fb73,fb75,show decide ((i : Int) < (ks.length : Int)) = true by simp; omega, show decide (c ≥ 0) = true by simp; omega, show decide (0 ≤ c) = true by simp; omega, ndsAt hl, wrap_succ (show i < 4611686018427387904 by omega)]);show GoR ..)|(refine GoR.c c94 (by rfl) (by rfl) rfl ?_;(refine (ih _ (List.getElem_mem hl) c h0 (by omega) _).retE ?_; rintro _ ⟨r, rfl, h1, h2, h3⟩))|refine GoR.s (by rfl) rfl rfl ?_|(refine GoR.splitG rfl (fun hc => ?_) (fun hc => ?_) <;> simp only [hc])|refine Go.condB rfl (fun hc => ?_) (fun hc => ?_))
        refine Go.lpN ?_
        refine Go.keep [(1, .int .i64 r), (2, .ptr S.length 0), (5, .int .i64 ((i + 1 : Nat) : Int))] (.cons .refl (.cons .refl (.cons .refl (.nil)))) ?_
        refine next (i + 1, r) (by dsimp only; omega) ⟨hl, h1, by dsimp only; omega, fun hr => ⟨fun j hj hlt => ?_, ?_⟩⟩
        all_goals dsimp only at hr
        rotate_left
        · have := (hs h0).2
          have := (h3 hr).2
          rw [cnts_succ hl]
          push_cast
          omega
        dsimp only at hlt
        rcases Nat.lt_or_ge j i with h | h
        · exact (hs h0).1 j hj h
        · obtain rfl : j = i := by omega
          exact (h3 hr).1
      · clear next
        repeat' (first|refine Go.a rfl ?_|refine Go.rg ?_|refine GoR.nil ?_|refine Go.ret ?_|refine Go.b rfl ?_|(refine GoR.o (by rfl) (by rfl) ?_;(conv => arg 1;simp only [G,Z,Y,Gx,un_neg,cutD,decide_true,decide_false,simprocAttr,fb2,fb3,fb9,fb73,fb75,show decide ((i : Int) < (ks.length : Int)) = true by simp; omega, show decide (c ≥ 0) = false by simp; omega, show decide (0 ≤ c) = false by simp; omega]);show GoR ..)|refine GoR.s (by rfl) rfl rfl ?_|(refine GoR.splitG rfl (fun hc => ?_) (fun hc => ?_) <;> simp only [hc])|refine Go.condB rfl (fun hc => ?_) (fun hc => ?_))
        refine ⟨(by first | exact .inl rfl | exact .inr rfl), fin ?_⟩
        rw [resD_tmp (fn := Tryz.f94) rfl]
        simp only [optThen_some,resultD_tmp,resultD_cell,G,Z,Y,Gx,un_neg,cutD,decide_true,decide_false,simprocAttr,fb2,fb3,fb9,fb73,fb75]
        exact ⟨_, _, rfl, .int, c, rfl, hc1, by omega, fun h => absurd h h0⟩
    · clear next
      repeat' (first|refine Go.a rfl ?_|refine Go.rg ?_|refine GoR.nil ?_|refine Go.ret ?_|refine Go.b rfl ?_|(refine GoR.o (by rfl) (by rfl) ?_;(conv => arg 1;simp only [G,Z,Y,Gx,un_neg,cutD,decide_true,decide_false,simprocAttr,fb2,fb3,fb9,fb73,fb75,show decide ((i : Int) < (ks.length : Int)) = false by simp; omega]);show GoR ..)|refine GoR.s (by rfl) rfl rfl ?_|(refine GoR.splitG rfl (fun hc => ?_) (fun hc => ?_) <;> simp only [hc])|refine Go.condB rfl (fun hc => ?_) (fun hc => ?_))
      refine ⟨(by first | exact .inl rfl | exact .inr rfl), fin ?_⟩
      rw [resD_tmp (fn := Tryz.f94) rfl]
      simp only [optThen_some,resultD_tmp,resultD_cell,G,Z,Y,Gx,un_neg,cutD,decide_true,decide_false,simprocAttr,fb2,fb3,fb9,fb73,fb75]
      refine ⟨_, _, rfl, .int, c, rfl, hc1, by omega, fun h => ⟨.mk hnm (by omega) fun x hx => ?_, ?_⟩⟩
      rotate_left
      · have := (hs h).2
        rw [List.take_of_length_le (by omega)] at this
        rw [cnt_mk]
        push_cast
        omega
      obtain ⟨j, hj, rfl⟩ := List.mem_iff_getElem.1 hx
      exact (hs h).1 j hj (by omega)

theorem few9 (n : Nd) (S : Mem) : CallD Tryz.prog orc 47 [.agg n.c] S fun d S' => S' = S ∧ ∃ b, d = .bool b ∧ (b = true → Slim 100 n ∧ cnt n ≤ 60) := by
  obtain ⟨op, nm, n, ks⟩ := n
  have hleft := fun S => left (orc := orc) (.mk op nm n ks) 60 (by omega) (by omega) S
  rw [Nd.c_mk] at hleft ⊢
  refine CallD.e Tryz.func47 rfl Tryz.ntmps47 (by rfl) ?_
  repeat' (first|refine Go.a rfl ?_|refine Go.rg ?_|refine GoR.nil ?_|refine Go.ret ?_|refine Go.b rfl ?_|(refine GoR.o (by rfl) (by rfl) ?_;(conv => arg 1;simp only [G,Z,Y,Gx,un_neg,cutD,decide_true,decide_false,simprocAttr,fb2,fb3,fb9,fb73,fb75]);show GoR ..)|(refine GoR.c c94 (by rfl) (by rfl) rfl ?_;(refine (hleft _).retE ?_; rintro _ ⟨r, rfl, h1, h2, h3⟩))|refine Go.condB rfl (fun hc => ?_) (fun hc => ?_))
  refine ⟨(by first | exact .inl rfl | exact .inr rfl), fin ?_⟩
  rw [resD_tmp (fn := Tryz.f47) rfl]
  simp only [optThen_some,resultD_tmp,resultD_cell,G,Z,Y,Gx,un_neg,cutD,decide_true,decide_false,simprocAttr,fb2,fb3,fb9,fb73,fb75]
  exact ⟨_, _, rfl, .bool, _, rfl, fun h => by
    obtain ⟨q1, q2⟩ := h3 (by simpa using h)
    have : (0 : Int) ≤ r := by simpa using h
    exact ⟨q1, by omega⟩⟩

end Go.Proofs.DeT
