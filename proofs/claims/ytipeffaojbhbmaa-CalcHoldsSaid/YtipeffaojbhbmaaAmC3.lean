/- What calc.Holds and the reference answer, for every sign and any two numbers. -/
import Derived.Test.YtipeffaojbhbmaaAmFacts
import Derived.Test.YtipeffaojbhbmaaAmR
import Derived.Test.YtipeffaojbhbmaaAmV
namespace Go.Proofs.AmT1
open Go Go.AM
set_option maxRecDepth 10000
variable {orc : Oracle} {base : Nat}

def holdsS (op : ByteArray) (a b : Int) : Bool × Bool :=
  if op = (⟨#[61]⟩ : ByteArray) then (a == b, true) else if op = (⟨#[33, 61]⟩ : ByteArray) then (a != b, true) else if op = (⟨#[60]⟩ : ByteArray) then (decide (a < b), true) else
  if op = (⟨#[60, 61]⟩ : ByteArray) then (decide (a ≤ b), true) else if op = (⟨#[62]⟩ : ByteArray) then (decide (a > b), true) else if op = (⟨#[62, 61]⟩ : ByteArray) then (decide (a ≥ b), true) else (false, false)

theorem calcHolds (op : ByteArray) (a b : Int) (H : Heap) : CallA Try.prog orc base 14 [.string op, .int .i64 a, .int .i64 b] H fun v H' => v = .tuple #[.bool (holdsS op a b).1, .bool (holdsS op a b).2] ∧ H' = H := by
  refine CallA.body Try.func14 rfl (by simp [Try.ntmps14]) ?_
  rw [Try.ntmps14]
  repeat' (first
    | refine Go.seq ?_
    | refine Go.rg ?_
    | refine GoR.nil ?_
    | refine Go.skip ?_
    | refine Go.ret ?_
    | refine Go.block ?_
    | refine Go.exit ?_
    | refine Go.blkX ?_
    | refine Go.blkN ?_
    | refine Go.passX ?_
    | refine Go.lpX ?_
    | (refine Go.blkE (by decide) ?_)
    | (refine GoR.op ?_ ?_ ?_
       · decide
       · rfl
       conv => arg 1; simp only [G, F, opA, put_ne, Nat.reduceBEq, binA, intBin, strBin, str_eq, Option.map_some, if_true, if_false, Bool.false_eq_true, Bool.not_true, Bool.not_false, beq_self_eq_true]
       show GoR _ _ _ _ _ _ _ _ _ _)
    | (refine Go.condT ?_ ?_
       · rfl)
    | (refine Go.condF ?_ ?_
       · rfl)
    | (refine GoR.opG ?_ ?_ ?_ ?_
       · decide
       · rfl
       · rfl
       conv => arg 1; simp only [G, F, opA, put_ne, Nat.reduceBEq, binA, intBin, strBin, str_eq, Option.map_some, if_true, if_false, Bool.false_eq_true, Bool.not_true, Bool.not_false, beq_self_eq_true]
       show GoR _ _ _ _ _ _ _ _ _ _)
    | (refine GoR.skipG ?_ ?_ ?_
       · decide
       · rfl)
    | (refine GoR.splitG rfl (fun hc => ?_) (fun hc => ?_) <;> simp only [hc])
    | refine Go.condB rfl (fun hc => ?_) (fun hc => ?_))
  all_goals
    refine ⟨.inr rfl, _, rfl, ?_⟩
    simp_all [put, upd, holdsS]

theorem refHolds (op : ByteArray) (a b : Int) (H : Heap) : CallA Try.prog orc base 15 [.string op, .int .i64 a, .int .i64 b] H fun v H' => v = .tuple #[.bool (holdsS op a b).1, .bool (holdsS op a b).2] ∧ H' = H := by
  refine CallA.body Try.func15 rfl (by simp [Try.ntmps15]) ?_
  rw [Try.ntmps15]
  repeat' (first
    | refine Go.seq ?_
    | refine Go.rg ?_
    | refine GoR.nil ?_
    | refine Go.skip ?_
    | refine Go.ret ?_
    | refine Go.block ?_
    | refine Go.exit ?_
    | refine Go.blkX ?_
    | refine Go.blkN ?_
    | refine Go.passX ?_
    | refine Go.lpX ?_
    | (refine Go.blkE (by decide) ?_)
    | (refine GoR.op ?_ ?_ ?_
       · decide
       · rfl
       conv => arg 1; simp only [G, F, opA, put_ne, Nat.reduceBEq, binA, intBin, strBin, str_eq, Option.map_some, if_true, if_false, Bool.false_eq_true, Bool.not_true, Bool.not_false, beq_self_eq_true]
       show GoR _ _ _ _ _ _ _ _ _ _)
    | (refine Go.condT ?_ ?_
       · rfl)
    | (refine Go.condF ?_ ?_
       · rfl)
    | (refine GoR.opG ?_ ?_ ?_ ?_
       · decide
       · rfl
       · rfl
       conv => arg 1; simp only [G, F, opA, put_ne, Nat.reduceBEq, binA, intBin, strBin, str_eq, Option.map_some, if_true, if_false, Bool.false_eq_true, Bool.not_true, Bool.not_false, beq_self_eq_true]
       show GoR _ _ _ _ _ _ _ _ _ _)
    | (refine GoR.skipG ?_ ?_ ?_
       · decide
       · rfl)
    | (refine GoR.splitG rfl (fun hc => ?_) (fun hc => ?_) <;> simp only [hc])
    | refine Go.condB rfl (fun hc => ?_) (fun hc => ?_))
  all_goals
    refine ⟨.inr rfl, _, rfl, ?_⟩
    simp_all [put, upd, holdsS]
end Go.Proofs.AmT1
