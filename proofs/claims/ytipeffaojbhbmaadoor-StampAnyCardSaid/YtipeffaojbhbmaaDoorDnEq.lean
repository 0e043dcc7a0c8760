/- Structs held against each other. -/
import Derived.Test.YtipeffaojbhbmaaDoorDnFacts
import Derived.Laws.StructEq
set_option linter.unusedSimpArgs false
set_option linter.unusedVariables false
namespace Go.AM
open Go
theorem pureRun_bind {α β : Type} {P : Program} : ∀ (s : Sem α) (k : α → Sem β), pureRun P (s >>= k) = (pureRun P s).bind fun a => pureRun P (k a)
  | .pure a, k => rfl
  | .program c, k => by
    show pureRun P (Sem.bind (c P) k) = _
    exact pureRun_bind (c P) k
  | .mark m c, k => by
    show pureRun P (Sem.bind c k) = _
    exact pureRun_bind c k
  | .load .., k => rfl
  | .store .., k => rfl
  | .new .., k => rfl
  | .shape .., k => rfl
  | .freeze .., k => rfl
  | .frozen .., k => rfl
  | .getObj .., k => rfl
  | .setObj .., k => rfl
  | .choose .., k => rfl
  | .sys .., k => rfl
  | .halt .., k => rfl
theorem pureRun_pure {α : Type} {P : Program} {a : α} : pureRun P (pure a : Sem α) = some a := rfl
theorem pureRun_program {P : Program} : pureRun P (program : Sem Program) = some P := rfl
theorem pureRun_underlying {P : Program} {t : TypeId} {d : TypeDesc} (h : P.underlying t = some d) : pureRun P (underlying t) = some d := by
  unfold underlying
  simp [pureRun_bind, pureRun_program, h, pureRun_pure]
theorem pureRun_isAgg {P : Program} {t : TypeId} {b : Bool} (h : isAggA P t = some b) : pureRun P (isAgg t) = some b := by
  unfold isAggA at h
  cases hu : P.underlying t with
  | none => rw [hu] at h; cases h
  | some d =>
    rw [hu] at h
    simp only [Option.map_some, Option.some.injEq] at h
    subst h
    unfold isAgg
    simp only [pureRun_bind, pureRun_underlying hu, Option.bind_some]
    cases d <;> rfl
theorem pureRun_part {P : Program} {t : TypeId} {cs : Array Value} {off : Nat} {v : Value} (h : isAggA P t = some false) (hv : cs[off]? = some v) : pureRun P (part t cs off) = some v := by
  unfold part
  simp [pureRun_bind, pureRun_isAgg h, hv, pureRun_pure]
end Go.AM
namespace Go.Proofs.DnT
open Go Go.AM Go.DM
theorem eqI {P : Program} {d : Nat} {t : TypeId} {k k' : IntKind} {a b : Int} (h : P.underlying t = some (.int k')) : pureRun P (Op.equalIn (d + 1) t (.int k a) (.int k b)) = some (a == b) := by
  simp [Op.equalIn, pureRun_bind, pureRun_underlying h, pureRun_pure]
theorem eqS {P : Program} {d : Nat} {t : TypeId} {a b : ByteArray} (h : P.underlying t = some .string) : pureRun P (Op.equalIn (d + 1) t (.string a) (.string b)) = some (a == b) := by
  simp [Op.equalIn, pureRun_bind, pureRun_underlying h, pureRun_pure]
theorem eq_st {x y : Operand} {a1 a2 a3 b1 b2 b3 : Int} {a4 b4 : ByteArray} :
    binD Tryd.prog .eql 23 x y (.agg [.int .i64 a1, .int .i64 a2, .int .i64 a3, .str a4]) (.agg [.int .i64 b1, .int .i64 b2, .int .i64 b3, .str b4]) = some (.bool (decide (a1 = b1 ∧ a2 = b2 ∧ a3 = b3 ∧ a4 = b4))) := by
  have hg : Tryd.prog.eqGuardType Tryd.prog.depth 23 = false := by kernel_rfl
  have hs : Tryd.prog.stoodInHeld 23 = false := by kernel_rfl
  have hrun : pureRun Tryd.prog (Op.equalIn (9998 + 1 + 1) 23 (.agg #[.int .i64 a1, .int .i64 a2, .int .i64 a3, .string a4]) (.agg #[.int .i64 b1, .int .i64 b2, .int .i64 b3, .string b4])) = some (a1 == b1 && (a2 == b2 && (a3 == b3 && a4 == b4))) := by
    rw [Op.equalIn]
    simp only [pureRun_bind, pureRun_underlying Tryd.underlying23, Option.bind_some, pureRun_program, hs]
    have i9 : ∀ {a b : Int}, pureRun Tryd.prog (Op.equalIn 9999 2 (.int .i64 a) (.int .i64 b)) = some (a == b) := eqI (d := 9998) Tryd.underlying2
    have s9 : ∀ {a b : ByteArray}, pureRun Tryd.prog (Op.equalIn 9999 9 (.string a) (.string b)) = some (a == b) := eqS (d := 9998) Tryd.underlying9
    by_cases h1 : a1 = b1 <;> by_cases h2 : a2 = b2 <;> by_cases h3 : a3 = b3 <;> cases h4 : (a4 == b4) <;>
      simp [pureRun_bind, pureRun_pure, pureRun_part dag2, pureRun_part dag9, i9, s9, h1, h2, h3, h4]
  have e : decide (a1 = b1 ∧ a2 = b2 ∧ a3 = b3 ∧ a4 = b4) = (a1 == b1 && (a2 == b2 && (a3 == b3 && a4 == b4))) := by
    have h : (a4 == b4) = decide (a4 = b4) := by rw [beq_toListBytes]; exact str_eq
    rw [h, Bool.eq_iff_iff]
    simp
  rw [e]
  simp only [binD, toV, toSs, toS, Option.map_some, binV, binA, nilEq, eqA, closedV, scalarV]
  have hmap : pureRun Tryd.prog (Value.bool <$> Op.equalIn 10000 23 (.agg #[.int .i64 a1, .int .i64 a2, .int .i64 a3, .string a4]) (.agg #[.int .i64 b1, .int .i64 b2, .int .i64 b3, .string b4])) = some (.bool (a1 == b1 && (a2 == b2 && (a3 == b3 && a4 == b4)))) := by
    rw [map_eq_pure_bind, pureRun_bind, hrun]
    rfl
  simp [eqGuard, binOp, pureRun_bind, pureRun_program, hg, pureRun_pure, Op.equal, Op.maxDepth, hmap, scalarV, ofV, ofS]
end Go.Proofs.DnT
