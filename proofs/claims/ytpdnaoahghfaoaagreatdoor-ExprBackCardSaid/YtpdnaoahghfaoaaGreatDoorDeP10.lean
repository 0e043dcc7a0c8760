/- The words of a text are ones that may be in an expression. -/
import Derived.Test.YtpdnaoahghfaoaaGreatDoorDeP9
set_option linter.unusedSimpArgs false
set_option linter.unusedVariables false
namespace Go.Proofs.DeT
open Go Go.DM
set_option maxRecDepth 100000

theorem toArr_size {l : List UInt8} : (⟨l.toArray⟩ : ByteArray).size = l.length := List.size_toArray
theorem lexOne_word {b : UInt8} {r : List UInt8} {k : Int} {n v : Nat} (h : lexOne (b :: r) = .ok (k, n, v)) : (k = 1 → nameOk ⟨((b :: r).take n).toArray⟩ = true) ∧ (k = 2 → v < 9223372036854775808) := by
  unfold lexOne at h
  dsimp only at h
  by_cases h1 : letB b = true
  · rw [if_pos h1] at h
    by_cases h8 : 8 < ((b :: r).takeWhile lodB).length
    · rw [if_pos h8] at h; cases h
    · rw [if_neg h8] at h
      cases h
      refine ⟨fun _ => ?_, fun e => absurd e (by decide)⟩
      rw [takeWhile_take]
      have hlod : lodB b = true := by unfold lodB; rw [h1]; rfl
      have hpos := takeWhile_pos (r := r) hlod
      unfold nameOk
      rw [toArr_size, decide_eq_true (show 1 ≤ _ from hpos), decide_eq_true (show _ ≤ 8 by omega), Bool.true_and, Bool.true_and]
      have e : (b :: r).takeWhile lodB = b :: r.takeWhile lodB := by rw [List.takeWhile_cons, if_pos hlod]
      have h3 : ((⟨((b :: r).takeWhile lodB).toArray⟩ : ByteArray).data)[0]?.any lowB = true := by
        rw [e]
        show (some b).any lowB = true
        exact h1
      rw [h3, Bool.true_and]
      show (((b :: r).takeWhile lodB).toArray.toList).all _ = true
      rw [List.toList_toArray, List.all_eq_true]
      intro x hx
      exact takeWhile_all _ x hx
  · rw [if_neg h1] at h
    by_cases h2 : dgtB b = true
    · rw [if_pos h2] at h
      split at h
      · cases h
      · split at h
        · rename_i hv
          cases h
          exact ⟨fun e => absurd e (by decide), fun _ => hv⟩
        · cases h
    · rw [if_neg h2] at h
      split at h
      · cases h; exact ⟨fun e => absurd e (by decide), fun e => absurd e (by decide)⟩
      · split at h
        · cases h; exact ⟨fun e => absurd e (by decide), fun e => absurd e (by decide)⟩
        · cases h
theorem lexAll_word : ∀ (f : Nat) (l : List UInt8) (a : Nat) (ts : List Tok), lexAll f l a = .ok ts → ∀ t ∈ ts, WordOk t
  | 0, _, _, _, h => by cases h; simp
  | _ + 1, [], _, _, h => by cases h; simp
  | f + 1, b :: r, a, ts, h => by
    unfold lexAll at h
    split at h
    · exact lexAll_word f r (a + 1) ts h
    · cases ho : lexOne (b :: r) with
      | error e => rw [ho] at h; cases h
      | ok x =>
        obtain ⟨k, n, v⟩ := x
        rw [ho] at h
        dsimp only at h
        cases hq : lexAll f ((b :: r).drop n) (a + n) with
        | error y => rw [hq] at h; cases h
        | ok us =>
          rw [hq] at h
          cases h
          intro t ht
          rcases List.mem_cons.1 ht with rfl | ht
          · obtain ⟨w1, w2⟩ := lexOne_word ho
            refine ⟨lexOne_kind ho, w1, fun hk => ?_⟩
            have := w2 hk
            exact ⟨⟨by dsimp only; omega, by dsimp only; omega⟩, by dsimp only; omega⟩
          · exact lexAll_word f _ _ us hq t ht
theorem lex_word {s : ByteArray} {l : List Tok} (h : lexF s = .ok l) : ∀ t ∈ l, WordOk t := by
  unfold lexF at h
  split at h
  · cases h
  · exact lexAll_word _ _ _ _ h
theorem parse (s : ByteArray) (hs : s.size < 1000000) (S : Mem) : CallD Tryz.prog O 38 [.str s] S fun d S' => S' = S ∧ d = resC (parseF s) :=
  exprParse s hs (fun l hl => by obtain ⟨r, hr, _⟩ := ofF_good (lex_word hl) (Nat.zero_le _); exact ⟨r, hr⟩) S
theorem parseR (s : ByteArray) (hs : s.size < 1000000) (S : Mem) : CallD Tryz.prog O 39 [.str s] S fun d S' => S' = S ∧ d = resC (parseF s) :=
  refParse s hs (fun l hl => lex_word hl) S
/-- What is parsed is whole, and has few nodes. -/
theorem parse_whole {s : ByteArray} (h : (parseF s).2.2 = 0) : Whole (parseF s).1 ∧ cnt (parseF s).1 ≤ 32 := by
  unfold parseF at h ⊢
  cases hl : lexF s with
  | error x => obtain ⟨a, e⟩ := x; rw [hl] at h; exact absurd h (lexF_err hl)
  | ok l =>
    rw [hl] at h
    obtain ⟨r, hr, hg⟩ := ofF_good (lex_word hl) (Nat.zero_le _)
    simp only [hr] at h ⊢
    unfold wholeF at h ⊢
    by_cases he : errF l r ≠ 0
    · rw [if_pos he] at h; exact absurd h he
    · rw [if_neg he]
      have he0 : r.2.e = 0 := by
        unfold errF at he
        split at he
        · exact absurd (by decide : (2 : Int) ≠ 0) he
        · exact Decidable.not_not.1 he
      obtain ⟨w, c1, c2⟩ := hg.ok he0
      dsimp only at c1
      exact ⟨w, by show cnt r.1 ≤ 32; omega⟩
end Go.Proofs.DeT
