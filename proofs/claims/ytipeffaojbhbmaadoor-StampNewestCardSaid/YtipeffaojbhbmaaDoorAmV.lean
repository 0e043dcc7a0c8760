/- An abstract machine over Go's operations: it can be run. -/
import Derived.Test.YtipeffaojbhbmaaDoorAmM
set_option linter.unusedSimpArgs false
set_option linter.unusedVariables false
namespace Go.AM
open Go

def okDstB (sz : Nat) : Option Tmp → Bool
  | some t => decide (t < sz)
  | none => true
theorem okDstB_ok {sz : Nat} {d : Option Tmp} (h : okDstB sz d = true) : okDst sz d := by
  cases d with
  | none => trivial
  | some t => simpa [okDstB, okDst] using h

def run (P : Program) (base : Nat) : Nat → Job → Heap → Option (Out × Heap)
  | 0, _, _ => none
  | n + 1, j, H =>
    match j with
    | .ops sz ops l ρ =>
      match l with
      | [] => some (.env ρ, H)
      | i :: l =>
        match ops[i]? with
        | none => none
        | some o =>
          match okDstB sz o.dst with
          | false => none
          | true =>
            match Region.wanted o (yieldedA ops ρ) with
            | false => run P base n (.ops sz ops l (put ρ o.dst undef)) H
            | true =>
              match o.op.operands.toList.all okOperand with
              | false => none
              | true =>
                match targetA ρ o.op with
                | some (f, args) =>
                  match P.funcs[f]? with
                  | none => none
                  | some fn =>
                    match fn.name == "runtime.NumGoroutine" || fn.body.isNone with
                    | true => none
                    | false =>
                      match run P base n (.call f args) H with
                      | some (.val v, H1) => run P base n (.ops sz ops l (put ρ o.dst v)) H1
                      | _ => none
                | none =>
                  match opA P base ρ o.op H with
                  | some (v, H1) => run P base n (.ops sz ops l (put ρ o.dst v)) H1
                  | none => none
    | .code sz c ρ =>
      match c with
      | .skip => some (.exit .normal ρ, H)
      | .label _ => some (.exit .normal ρ, H)
      | .exit id => some (.exit (.exit id) ρ, H)
      | .ret => some (.exit .ret ρ, H)
      | .seq c d =>
        match run P base n (.code sz c ρ) H with
        | some (.exit .normal ρ1, H1) => run P base n (.code sz d ρ1) H1
        | some (.exit (.exit id) ρ1, H1) => some (.exit (.exit id) ρ1, H1)
        | some (.exit .ret ρ1, H1) => some (.exit .ret ρ1, H1)
        | _ => none
      | .cond c x y =>
        match okOperand c, evalA ρ c with
        | true, .bool true => run P base n (.code sz x ρ) H
        | true, .bool false => run P base n (.code sz y ρ) H
        | _, _ => none
      | .block id c =>
        match run P base n (.code sz c ρ) H with
        | some (.exit .normal ρ1, H1) => some (.exit .normal ρ1, H1)
        | some (.exit (.exit id') ρ1, H1) => match id' == id with | true => some (.exit .normal ρ1, H1) | false => some (.exit (.exit id') ρ1, H1)
        | some (.exit .ret ρ1, H1) => some (.exit .ret ρ1, H1)
        | _ => none
      | .loop c =>
        match run P base n (.code sz c ρ) H with
        | some (.exit .normal ρ1, H1) => run P base n (.code sz (.loop c) ρ1) H1
        | some (.exit (.exit id) ρ1, H1) => some (.exit (.exit id) ρ1, H1)
        | some (.exit .ret ρ1, H1) => some (.exit .ret ρ1, H1)
        | _ => none
      | .region _ ops d =>
        match d && !drawnFine ops [] with
        | true => none
        | false =>
          match run P base n (.ops sz ops (List.range' 0 ops.size) ρ) H with
          | some (.env ρ1, H1) => some (.exit .normal ρ1, H1)
          | _ => none
      | _ => none
    | .call f args =>
      match P.funcs[f]? with
      | none => none
      | some fn =>
        match fn.body with
        | none => none
        | some c =>
          match decide (args.length ≤ fn.ntmps) with
          | false => none
          | true =>
            match run P base n (.code fn.ntmps c (initEnv args)) H with
            | some (.exit (.exit _) _, _) => none
            | some (.exit _ ρ, H') => match resultsA P fn ρ H' with | some v => some (.val v, H') | none => none
            | _ => none

theorem run_sound {P : Program} {orc : Oracle} {base : Nat} (hm : P.follows .mixedOrders = true) : ∀ (n : Nat) {j : Job} {H : Heap} {out : Out} {H' : Heap}, run P base n j H = some (out, H') → Big P orc base j H out H' := by
  intro n
  induction n with
  | zero => intro j H out H' h; simp [run] at h
  | succ n ih =>
    intro j H out H' h
    cases j with
    | ops sz ops l ρ =>
      cases l with
      | nil => simp only [run, Option.some.injEq, Prod.mk.injEq] at h; obtain ⟨rfl, rfl⟩ := h; exact .opsNil
      | cons i l =>
        simp only [run] at h
        cases ho : ops[i]? with
        | none => rw [ho] at h; cases h
        | some o =>
          rw [ho] at h
          simp only at h
          cases hd : okDstB sz o.dst with
          | false => rw [hd] at h; cases h
          | true =>
            rw [hd] at h
            simp only at h
            cases hw : Region.wanted o (yieldedA ops ρ) with
            | false => rw [hw] at h; exact .opsSkip ho hw (okDstB_ok hd) (ih h)
            | true =>
              rw [hw] at h
              simp only at h
              cases hc : o.op.operands.toList.all okOperand with
              | false => rw [hc] at h; cases h
              | true =>
                rw [hc] at h
                simp only at h
                cases ht : targetA ρ o.op with
                | none =>
                  rw [ht] at h
                  simp only at h
                  cases hop : opA P base ρ o.op H with
                  | none => rw [hop] at h; cases h
                  | some r => rw [hop] at h; exact .opsOp ho hw (okDstB_ok hd) hc hop (ih h)
                | some fa =>
                  obtain ⟨f, args⟩ := fa
                  rw [ht] at h
                  simp only at h
                  cases hf : P.funcs[f]? with
                  | none => rw [hf] at h; cases h
                  | some fn =>
                    rw [hf] at h
                    simp only at h
                    cases hb : (fn.name == "runtime.NumGoroutine" || fn.body.isNone) with
                    | true => rw [hb] at h; cases h
                    | false =>
                      rw [hb] at h
                      simp only at h
                      simp only [Bool.or_eq_false_iff, beq_eq_false_iff_ne] at hb
                      cases hr : run P base n (.call f args) H with
                      | none => rw [hr] at h; cases h
                      | some r =>
                        obtain ⟨o1, H1⟩ := r
                        rw [hr] at h
                        cases o1 with
                        | val v => exact .opsCall ho hw (okDstB_ok hd) hc ht hf hb.1 hb.2 (ih hr) (ih h)
                        | _ => cases h
    | code sz c ρ =>
      cases c with
      | skip => simp only [run, Option.some.injEq, Prod.mk.injEq] at h; obtain ⟨rfl, rfl⟩ := h; exact .skip
      | label l => simp only [run, Option.some.injEq, Prod.mk.injEq] at h; obtain ⟨rfl, rfl⟩ := h; exact .label
      | exit id => simp only [run, Option.some.injEq, Prod.mk.injEq] at h; obtain ⟨rfl, rfl⟩ := h; exact .exit
      | ret => simp only [run, Option.some.injEq, Prod.mk.injEq] at h; obtain ⟨rfl, rfl⟩ := h; exact .ret
      | seq c d =>
        simp only [run] at h
        cases hr : run P base n (.code sz c ρ) H with
        | none => rw [hr] at h; cases h
        | some r =>
          obtain ⟨o1, H1⟩ := r
          rw [hr] at h
          cases o1 with
          | exit e ρ1 =>
            cases e with
            | normal => exact .seqN (ih hr) (ih h)
            | exit id => cases h; exact .seqE (ih hr) (by simp)
            | ret => cases h; exact .seqE (ih hr) (by simp)
          | _ => cases h
      | cond c x y =>
        simp only [run] at h
        cases hk : okOperand c with
        | false => rw [hk] at h; cases h
        | true =>
          rw [hk] at h
          cases hc : evalA ρ c <;> rw [hc] at h <;> (try (cases h; done))
          rename_i b
          cases b with
          | true => exact .cond (t := true) hk hc (ih h)
          | false => exact .cond (t := false) hk hc (ih h)
      | block id c =>
        simp only [run] at h
        cases hr : run P base n (.code sz c ρ) H with
        | none => rw [hr] at h; cases h
        | some r =>
          obtain ⟨o1, H1⟩ := r
          rw [hr] at h
          cases o1 with
          | exit e ρ1 =>
            cases e with
            | normal => cases h; exact .blockN (ih hr)
            | exit id' =>
              simp only at h
              cases hi : id' == id with
              | true =>
                rw [hi] at h
                cases h
                obtain rfl : id' = id := by simpa using hi
                exact .blockX (ih hr)
              | false =>
                rw [hi] at h
                cases h
                have : id' ≠ id := by simpa using hi
                exact .blockE (ih hr) (by simp) (by simp [this])
            | ret => cases h; exact .blockE (ih hr) (by simp) (by simp)
          | _ => cases h
      | loop c =>
        simp only [run] at h
        cases hr : run P base n (.code sz c ρ) H with
        | none => rw [hr] at h; cases h
        | some r =>
          obtain ⟨o1, H1⟩ := r
          rw [hr] at h
          cases o1 with
          | exit e ρ1 =>
            cases e with
            | normal => exact .loopN (ih hr) (ih h)
            | exit id => cases h; exact .loopE (ih hr) (by simp)
            | ret => cases h; exact .loopE (ih hr) (by simp)
          | _ => cases h
      | region id ops d =>
        simp only [run] at h
        cases hd : (d && !drawnFine ops []) with
        | true => rw [hd] at h; cases h
        | false =>
          rw [hd] at h
          simp only at h
          cases hr : run P base n (.ops sz ops (List.range' 0 ops.size) ρ) H with
          | none => rw [hr] at h; cases h
          | some r =>
            obtain ⟨o1, H1⟩ := r
            rw [hr] at h
            cases o1 with
            | env ρ1 =>
              cases h
              cases d with
              | false => exact .region (by rw [List.range_eq_range']; exact ih hr)
              | true =>
                have hf : drawnFine ops [] = true := by simpa using hd
                obtain ⟨tr, t⟩ := big_tr _ (by simp) (ih hr)
                exact .regionD hm (fun n => t.all hf trivial n)
            | _ => cases h
      | _ => simp [run] at h
    | call f args =>
      simp only [run] at h
      cases hf : P.funcs[f]? with
      | none => rw [hf] at h; cases h
      | some fn =>
        rw [hf] at h
        simp only at h
        cases hb : fn.body with
        | none => rw [hb] at h; cases h
        | some c =>
          rw [hb] at h
          simp only at h
          cases ha : decide (args.length ≤ fn.ntmps) with
          | false => rw [ha] at h; cases h
          | true =>
            rw [ha] at h
            simp only at h
            cases hr : run P base n (.code fn.ntmps c (initEnv args)) H with
            | none => rw [hr] at h; cases h
            | some r =>
              obtain ⟨o1, H1⟩ := r
              rw [hr] at h
              cases o1 with
              | exit e ρ1 =>
                cases e with
                | exit id => cases h
                | normal =>
                  simp only at h
                  cases hv : resultsA P fn ρ1 H1 with
                  | none => rw [hv] at h; cases h
                  | some v => rw [hv] at h; cases h; exact .call hf hb (by simpa using ha) (ih hr) (.inl rfl) hv
                | ret =>
                  simp only at h
                  cases hv : resultsA P fn ρ1 H1 with
                  | none => rw [hv] at h; cases h
                  | some v => rw [hv] at h; cases h; exact .call hf hb (by simpa using ha) (ih hr) (.inr rfl) hv
              | _ => cases h

/-- A call that is just run. -/
theorem CallA.run {P : Program} {orc : Oracle} {base : Nat} (hm : P.follows .mixedOrders = true) {f : FuncId} {args : List Value} {H : Heap} {R : Value → Heap → Prop} (n : Nat)
    (h : match run P base n (.call f args) H with | some (.val v, H') => R v H' | _ => False) : CallA P orc base f args H R := by
  cases hr : AM.run P base n (.call f args) H with
  | none => rw [hr] at h; exact h.elim
  | some r =>
    obtain ⟨o1, H1⟩ := r
    rw [hr] at h
    cases o1 with
    | val v => exact ⟨v, H1, run_sound hm n hr, h⟩
    | _ => exact h.elim
end Go.AM
