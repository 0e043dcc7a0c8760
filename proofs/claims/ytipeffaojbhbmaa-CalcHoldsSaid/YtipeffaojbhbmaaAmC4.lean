/- The law on Holds answers true, in the abstract machine. -/
import Derived.Test.YtipeffaojbhbmaaAmC3
import Derived.Test.YtipeffaojbhbmaaAmW
import Derived.Test.YtipeffaojbhbmaaRows
namespace Go.Proofs.AmT1
open Go Go.AM
set_option maxRecDepth 10000
variable {orc : Oracle} {base : Nat}

theorem known (H : Heap) : CallA Try.prog orc base 6 [] H fun v H' => H' = H ∧ v = .bool true :=
  CallA.runs Try.checked.mixed 100000 (by kernel_rfl) rfl rfl

theorem lawHolds (op : ByteArray) (a b : Int) (H : Heap) : CallA Try.prog orc base 4 [.string op, .int .i64 a, .int .i64 b] H fun v H' => v = .bool true := by
  refine CallA.body Try.func4 rfl (by simp [Try.ntmps4]) ?_
  rw [Try.ntmps4]
  repeat' (first
    | refine Go.seq ?_
    | refine Go.rg ?_
    | refine GoR.nil ?_
    | refine Go.skip ?_
    | refine Go.ret ?_
    | refine Go.block ?_
    | refine Go.exit ?_
    | refine Go.blkX ?_
    | refine Go.blkN ?_
    | refine Go.passX ?_
    | refine Go.lpX ?_
    | (refine Go.blkE (by decide) ?_)
    | (refine GoR.op ?_ ?_ ?_
       · decide
       · rfl
       conv => arg 1; simp only [G, F, opA, put_ne, Nat.reduceBEq, binA, intBin, strBin, str_eq, Option.map_some, if_true, if_false, Bool.false_eq_true, Bool.not_true, Bool.not_false, beq_self_eq_true, builtinA, List.map_cons, List.map_nil]
       show GoR _ _ _ _ _ _ _ _ _ _)
    | (refine GoR.call (f := 6) ?_ ?_ rfl Try.func6 ?_ ?_ ?_
       · decide
       · rfl
       · decide
       · rfl
       (refine (known _).mono ?_; rintro v H' ⟨rfl, rfl⟩))
    | (refine GoR.callG (f := 6) ?_ ?_ ?_ rfl Try.func6 ?_ ?_ ?_
       · decide
       · rfl
       · rfl
       · decide
       · rfl
       (refine (known _).mono ?_; rintro v H' ⟨rfl, rfl⟩))
    | (refine GoR.call (f := 14) ?_ ?_ rfl Try.func14 ?_ ?_ ?_
       · decide
       · rfl
       · decide
       · rfl
       (refine (calcHolds _ _ _ _).mono ?_; rintro v H' ⟨rfl, rfl⟩))
    | (refine GoR.callG (f := 14) ?_ ?_ ?_ rfl Try.func14 ?_ ?_ ?_
       · decide
       · rfl
       · rfl
       · decide
       · rfl
       (refine (calcHolds _ _ _ _).mono ?_; rintro v H' ⟨rfl, rfl⟩))
    | (refine GoR.call (f := 15) ?_ ?_ rfl Try.func15 ?_ ?_ ?_
       · decide
       · rfl
       · decide
       · rfl
       (refine (refHolds _ _ _ _).mono ?_; rintro v H' ⟨rfl, rfl⟩))
    | (refine GoR.callG (f := 15) ?_ ?_ ?_ rfl Try.func15 ?_ ?_ ?_
       · decide
       · rfl
       · rfl
       · decide
       · rfl
       (refine (refHolds _ _ _ _).mono ?_; rintro v H' ⟨rfl, rfl⟩))
    | (refine Go.condT ?_ ?_
       · rfl)
    | (refine Go.condF ?_ ?_
       · rfl)
    | (refine GoR.opG ?_ ?_ ?_ ?_
       · decide
       · rfl
       · rfl
       conv => arg 1; simp only [G, F, opA, put_ne, Nat.reduceBEq, binA, intBin, strBin, str_eq, Option.map_some, if_true, if_false, Bool.false_eq_true, Bool.not_true, Bool.not_false, beq_self_eq_true, builtinA, List.map_cons, List.map_nil]
       show GoR _ _ _ _ _ _ _ _ _ _)
    | (refine GoR.skipG ?_ ?_ ?_
       · decide
       · rfl)
    | (refine GoR.splitG rfl (fun hc => ?_) (fun hc => ?_) <;> simp only [hc])
    | refine Go.condB rfl (fun hc => ?_) (fun hc => ?_))
  all_goals
    refine ⟨.inr rfl, _, rfl, ?_⟩
    simp [put, upd]
end Go.Proofs.AmT1
