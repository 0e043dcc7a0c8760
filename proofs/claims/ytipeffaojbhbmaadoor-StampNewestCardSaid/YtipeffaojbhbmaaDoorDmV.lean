/- An abstract machine over Go's operations: it can be run. -/
import Derived.Test.YtipeffaojbhbmaaDoorDmM
import Derived.Test.YtipeffaojbhbmaaDoorAmV
set_option linter.unusedSimpArgs false
set_option linter.unusedVariables false
namespace Go.DM
open Go Go.AM

/-- Whether an operation is wanted, where that is known. -/
def wantD (ops : Array Oper) (ρ : DEnv) (o : Oper) : Option Bool :=
  match o.guard with
  | none => some true
  | some g => match yieldS ops ρ g.1 with | some b => some (b == some g.2) | none => none
theorem yielded_of {ops : Array Oper} {ρ : DEnv} {j : Nat} {b : Bool} (h : yieldS ops ρ j = some (some b)) : yieldedD ops ρ j = some b := by
  unfold yieldS at h
  unfold yieldedD
  split at h
  · rename_i t ht
    split at h
    · cases h; rename_i hc; simp only [ht, hc]
    · cases h
    · cases h
  · cases h
theorem wantD_true {ops : Array Oper} {ρ : DEnv} {o : Oper} (h : wantD ops ρ o = some true) : Region.wanted o (yieldedD ops ρ) = true := by
  unfold wantD at h
  unfold Region.wanted
  cases hg : o.guard with
  | none => simp
  | some g =>
    obtain ⟨g, w⟩ := g
    rw [hg] at h
    simp only at h ⊢
    cases hy : yieldS ops ρ g with
    | none => rw [hy] at h; cases h
    | some b =>
      rw [hy] at h
      have hb : b = some w := by simpa using h
      subst hb
      rw [yielded_of hy]
      simp
theorem wantD_false {ops : Array Oper} {ρ : DEnv} {o : Oper} (h : wantD ops ρ o = some false) : ∃ g b, o.guard = some g ∧ yieldS ops ρ g.1 = some b ∧ (b == some g.2) = false := by
  unfold wantD at h
  cases hg : o.guard with
  | none => rw [hg] at h; cases h
  | some g =>
    rw [hg] at h
    simp only at h
    cases hy : yieldS ops ρ g.1 with
    | none => rw [hy] at h; cases h
    | some b => rw [hy] at h; exact ⟨g, b, rfl, hy, by simpa using h⟩

def run (P : Program) : Nat → DJob → Mem → Option (DOut × Mem)
  | 0, _, _ => none
  | n + 1, j, H =>
    match j with
    | .ops sz ops l ρ =>
      match l with
      | [] => some (.env ρ, H)
      | i :: l =>
        match ops[i]? with
        | none => none
        | some o =>
          match okDstB sz o.dst with
          | false => none
          | true =>
            match wantD ops ρ o with
            | none => none
            | some false => run P n (.ops sz ops l (putD ρ o.dst dUndef)) H
            | some true =>
              match o.op.operands.toList.all okOperand with
              | false => none
              | true =>
                match targetD ρ o.op with
                | some (f, args) =>
                  match P.funcs[f]? with
                  | none => none
                  | some fn =>
                    match fn.name == "runtime.NumGoroutine" || fn.body.isNone with
                    | true => none
                    | false =>
                      match run P n (.call f args) H with
                      | some (.val v, H1) => run P n (.ops sz ops l (putD ρ o.dst v)) H1
                      | _ => none
                | none =>
                  match opD P ρ o.op H with
                  | some (v, H1) => run P n (.ops sz ops l (putD ρ o.dst v)) H1
                  | none => none
    | .code sz c ρ =>
      match c with
      | .skip => some (.exit .normal ρ, H)
      | .label _ => some (.exit .normal ρ, H)
      | .exit id => some (.exit (.exit id) ρ, H)
      | .ret => some (.exit .ret ρ, H)
      | .seq c d =>
        match run P n (.code sz c ρ) H with
        | some (.exit .normal ρ1, H1) => run P n (.code sz d ρ1) H1
        | some (.exit (.exit id) ρ1, H1) => some (.exit (.exit id) ρ1, H1)
        | some (.exit .ret ρ1, H1) => some (.exit .ret ρ1, H1)
        | _ => none
      | .cond c x y =>
        match okOperand c, evalD ρ c with
        | true, .bool true => run P n (.code sz x ρ) H
        | true, .bool false => run P n (.code sz y ρ) H
        | _, _ => none
      | .block id c =>
        match run P n (.code sz c ρ) H with
        | some (.exit .normal ρ1, H1) => some (.exit .normal ρ1, H1)
        | some (.exit (.exit id') ρ1, H1) => match id' == id with | true => some (.exit .normal ρ1, H1) | false => some (.exit (.exit id') ρ1, H1)
        | some (.exit .ret ρ1, H1) => some (.exit .ret ρ1, H1)
        | _ => none
      | .loop c =>
        match run P n (.code sz c ρ) H with
        | some (.exit .normal ρ1, H1) => run P n (.code sz (.loop c) ρ1) H1
        | some (.exit (.exit id) ρ1, H1) => some (.exit (.exit id) ρ1, H1)
        | some (.exit .ret ρ1, H1) => some (.exit .ret ρ1, H1)
        | _ => none
      | .region _ ops d =>
        match d && !drawnFineD ops [] with
        | true => none
        | false =>
          match run P n (.ops sz ops (List.range' 0 ops.size) ρ) H with
          | some (.env ρ1, H1) => some (.exit .normal ρ1, H1)
          | _ => none
      | _ => none
    | .call f args =>
      match P.funcs[f]? with
      | none => none
      | some fn =>
        match fn.body with
        | none => none
        | some c =>
          match decide (args.length ≤ fn.ntmps) with
          | false => none
          | true =>
            match run P n (.code fn.ntmps c (initD args)) H with
            | some (.exit (.exit _) _, _) => none
            | some (.exit _ ρ, H') => match resultsD P fn ρ H' with | some v => some (.val v, H') | none => none
            | _ => none

theorem run_sound {P : Program} {orc : DOracle} (hm : P.follows .mixedOrders = true) : ∀ (n : Nat) {fl : Nat} {j : DJob} {H : Mem} {out : DOut} {H' : Mem}, run P n j H = some (out, H') → BigD P orc fl j H out H' := by
  intro n
  induction n with
  | zero => intro fl j H out H' h; simp [run] at h
  | succ n ih =>
    intro fl j H out H' h
    cases j with
    | ops sz ops l ρ =>
      cases l with
      | nil => simp only [run, Option.some.injEq, Prod.mk.injEq] at h; obtain ⟨rfl, rfl⟩ := h; exact .opsNil
      | cons i l =>
        simp only [run] at h
        cases ho : ops[i]? with
        | none => rw [ho] at h; cases h
        | some o =>
          rw [ho] at h
          simp only at h
          cases hd : okDstB sz o.dst with
          | false => rw [hd] at h; cases h
          | true =>
            rw [hd] at h
            simp only at h
            cases hw : wantD ops ρ o with
            | none => rw [hw] at h; cases h
            | some wb =>
            cases wb with
            | false =>
              rw [hw] at h
              obtain ⟨g, b, hg, hy, hb⟩ := wantD_false hw
              exact .opsSkip ho hg hy hb (okDstB_ok hd) (ih h)
            | true =>
              rw [hw] at h
              have hw := wantD_true hw
              simp only at h
              cases hc : o.op.operands.toList.all okOperand with
              | false => rw [hc] at h; cases h
              | true =>
                rw [hc] at h
                simp only at h
                cases ht : targetD ρ o.op with
                | none =>
                  rw [ht] at h
                  simp only at h
                  cases hop : opD P ρ o.op H with
                  | none => rw [hop] at h; cases h
                  | some r => rw [hop] at h; exact .opsOp ho hw (okDstB_ok hd) hc hop (ih h)
                | some fa =>
                  obtain ⟨f, args⟩ := fa
                  rw [ht] at h
                  simp only at h
                  cases hf : P.funcs[f]? with
                  | none => rw [hf] at h; cases h
                  | some fn =>
                    rw [hf] at h
                    simp only at h
                    cases hb : (fn.name == "runtime.NumGoroutine" || fn.body.isNone) with
                    | true => rw [hb] at h; cases h
                    | false =>
                      rw [hb] at h
                      simp only at h
                      simp only [Bool.or_eq_false_iff, beq_eq_false_iff_ne] at hb
                      cases hr : run P n (.call f args) H with
                      | none => rw [hr] at h; cases h
                      | some r =>
                        obtain ⟨o1, H1⟩ := r
                        rw [hr] at h
                        cases o1 with
                        | val v => exact .opsCall ho hw (okDstB_ok hd) hc ht hf hb.1 hb.2 (ih hr) (ih h)
                        | _ => cases h
    | code sz c ρ =>
      cases c with
      | skip => simp only [run, Option.some.injEq, Prod.mk.injEq] at h; obtain ⟨rfl, rfl⟩ := h; exact .skip
      | label l => simp only [run, Option.some.injEq, Prod.mk.injEq] at h; obtain ⟨rfl, rfl⟩ := h; exact .label
      | exit id => simp only [run, Option.some.injEq, Prod.mk.injEq] at h; obtain ⟨rfl, rfl⟩ := h; exact .exit
      | ret => simp only [run, Option.some.injEq, Prod.mk.injEq] at h; obtain ⟨rfl, rfl⟩ := h; exact .ret
      | seq c d =>
        simp only [run] at h
        cases hr : run P n (.code sz c ρ) H with
        | none => rw [hr] at h; cases h
        | some r =>
          obtain ⟨o1, H1⟩ := r
          rw [hr] at h
          cases o1 with
          | exit e ρ1 =>
            cases e with
            | normal => exact .seqN (ih hr) (ih h)
            | exit id => cases h; exact .seqE (ih hr) (by simp)
            | ret => cases h; exact .seqE (ih hr) (by simp)
          | _ => cases h
      | cond c x y =>
        simp only [run] at h
        cases hk : okOperand c with
        | false => rw [hk] at h; cases h
        | true =>
          rw [hk] at h
          cases hc : evalD ρ c <;> rw [hc] at h <;> (try (cases h; done))
          rename_i b
          cases b with
          | true => exact .cond (t := true) hk hc (ih h)
          | false => exact .cond (t := false) hk hc (ih h)
      | block id c =>
        simp only [run] at h
        cases hr : run P n (.code sz c ρ) H with
        | none => rw [hr] at h; cases h
        | some r =>
          obtain ⟨o1, H1⟩ := r
          rw [hr] at h
          cases o1 with
          | exit e ρ1 =>
            cases e with
            | normal => cases h; exact .blockN (ih hr)
            | exit id' =>
              simp only at h
              cases hi : id' == id with
              | true =>
                rw [hi] at h
                cases h
                obtain rfl : id' = id := by simpa using hi
                exact .blockX (ih hr)
              | false =>
                rw [hi] at h
                cases h
                have : id' ≠ id := by simpa using hi
                exact .blockE (ih hr) (by simp) (by simp [this])
            | ret => cases h; exact .blockE (ih hr) (by simp) (by simp)
          | _ => cases h
      | loop c =>
        simp only [run] at h
        cases hr : run P n (.code sz c ρ) H with
        | none => rw [hr] at h; cases h
        | some r =>
          obtain ⟨o1, H1⟩ := r
          rw [hr] at h
          cases o1 with
          | exit e ρ1 =>
            cases e with
            | normal => exact .loopN (ih hr) (ih h)
            | exit id => cases h; exact .loopE (ih hr) (by simp)
            | ret => cases h; exact .loopE (ih hr) (by simp)
          | _ => cases h
      | region id ops d =>
        simp only [run] at h
        cases hd : (d && !drawnFineD ops []) with
        | true => rw [hd] at h; cases h
        | false =>
          rw [hd] at h
          simp only at h
          cases hr : run P n (.ops sz ops (List.range' 0 ops.size) ρ) H with
          | none => rw [hr] at h; cases h
          | some r =>
            obtain ⟨o1, H1⟩ := r
            rw [hr] at h
            cases o1 with
            | env ρ1 =>
              cases h
              cases d with
              | false => exact .region (by rw [List.range_eq_range']; exact ih hr)
              | true =>
                have hf : drawnFineD ops [] = true := by simpa using hd
                obtain ⟨tr, t⟩ := big_tr _ (by simp) (ih hr)
                exact .regionD hm (fun n => t.all hf (by simp [fenceOk]) trivial n)
            | _ => cases h
      | _ => simp [run] at h
    | call f args =>
      simp only [run] at h
      cases hf : P.funcs[f]? with
      | none => rw [hf] at h; cases h
      | some fn =>
        rw [hf] at h
        simp only at h
        cases hb : fn.body with
        | none => rw [hb] at h; cases h
        | some c =>
          rw [hb] at h
          simp only at h
          cases ha : decide (args.length ≤ fn.ntmps) with
          | false => rw [ha] at h; cases h
          | true =>
            rw [ha] at h
            simp only at h
            cases hr : run P n (.code fn.ntmps c (initD args)) H with
            | none => rw [hr] at h; cases h
            | some r =>
              obtain ⟨o1, H1⟩ := r
              rw [hr] at h
              cases o1 with
              | exit e ρ1 =>
                cases e with
                | exit id => cases h
                | normal =>
                  simp only at h
                  cases hv : resultsD P fn ρ1 H1 with
                  | none => rw [hv] at h; cases h
                  | some v => rw [hv] at h; cases h; exact .call hf hb (by simpa using ha) (ih hr) (.inl rfl) hv
                | ret =>
                  simp only at h
                  cases hv : resultsD P fn ρ1 H1 with
                  | none => rw [hv] at h; cases h
                  | some v => rw [hv] at h; cases h; exact .call hf hb (by simpa using ha) (ih hr) (.inr rfl) hv
              | _ => cases h

def valOfD : Option (DOut × Mem) → Option (D × Mem)
  | some (.val v, H) => some (v, H)
  | _ => none
/-- A call that is just run. -/
theorem CallD.run {P : Program} {orc : DOracle} (hm : P.follows .mixedOrders = true) {f : FuncId} {args : List D} {H : Mem} {R : D → Mem → Prop} (n : Nat) {v : D} {H' : Mem}
    (h : valOfD (DM.run P n (.call f args) H) = some (v, H')) (hr : R v H') : CallD P orc f args H R := by
  cases hq : DM.run P n (.call f args) H with
  | none => rw [hq] at h; cases h
  | some r =>
    obtain ⟨o1, H1⟩ := r
    rw [hq] at h
    cases o1 with
    | val u => cases h; exact ⟨_, _, run_sound hm n hq, hr⟩
    | _ => cases h
end Go.DM
