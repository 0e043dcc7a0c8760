/- Which trees are whole: those that the document finds nothing wrong with. -/
import Derived.Test.YtpdnaoahghfaoaaGreatDoorDeP1
import Derived.Test.YtpdnaoahghfaoaaGreatDoorDeK1
set_option linter.unusedSimpArgs false
set_option linter.unusedVariables false
namespace Go.Proofs.DeT
open Go Go.DM
set_option maxRecDepth 10000
/-- A tree whose numbers are numbers. -/
inductive In64 : Nd → Prop
  | mk {op nm n ks} (h : in64 n) (hk : ∀ k ∈ ks, In64 k) : In64 (.mk op nm n ks)
theorem whole_of (n : Nd) (hi : In64 n) (hs : Slim 100 n) (h : checkS n = 0) : Whole n := by
  induction n using Nd.ind with
  | h op nm n ks ih =>
    obtain ⟨h1, hk1⟩ := hi
    obtain ⟨h2, h3, hk2⟩ := hs
    rw [checkS_mk] at h
    by_cases ha : arity op ≠ ks.length
    · rw [if_pos ha] at h; cases h
    rw [if_neg ha] at h
    by_cases hb : op = (⟨#[110, 97, 109, 101]⟩ : ByteArray) ∧ nameOk nm = false
    · rw [if_pos hb] at h; cases h
    rw [if_neg hb] at h
    by_cases hc : op = (⟨#[110, 117, 109]⟩ : ByteArray) ∧ n < 0
    · rw [if_pos hc] at h; cases h
    rw [if_neg hc] at h
    refine .mk (Decidable.not_not.1 ha) (fun e => ?_) (fun e => ?_) h1 (fun k hkm => ih k hkm (hk1 k hkm) (hk2 k hkm) (firstE_zero h _ (List.mem_map.2 ⟨k, hkm, rfl⟩))) h2
    · cases hq : nameOk nm with
      | true => rfl
      | false => exact absurd ⟨e, hq⟩ hb
    · rcases Int.lt_or_le n 0 with q | q
      · exact absurd ⟨e, q⟩ hc
      · exact q
theorem whole_ofN {n : Nd} (hi : In64 n) (hs : Slim 100 n) (h : checkN n = 0) : Whole n ∧ cnt n ≤ 32 := by
  unfold checkN at h
  by_cases hc : 32 < cnt n
  · rw [if_pos hc] at h; cases h
  · rw [if_neg hc] at h
    exact ⟨whole_of n hi hs h, by omega⟩
end Go.Proofs.DeT
