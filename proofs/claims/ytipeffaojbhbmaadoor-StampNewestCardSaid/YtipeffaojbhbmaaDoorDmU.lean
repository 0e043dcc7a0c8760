/- A machine over Go's operations in which slices are values: a law's arguments, by their types. -/
import Derived.Test.YtipeffaojbhbmaaDoorDmZ
set_option linter.unusedSimpArgs false
set_option linter.unusedVariables false
namespace Go.DM
open Go Go.AM

theorem cellsOf_size {P : Program} {t n : Nat} (h : sizeA P t = some n) : P.cellsOf t = n := by
  unfold sizeA at h
  unfold Program.cellsOf
  rw [h]
  rfl
section
variable {P : Program} {m t : Nat} {x : List D}
theorem WT.bool (hu : P.underlying t = some .bool) (h : WT P m t x) : ∃ b, x = [.bool b] := by
  cases m with
  | zero => exact h.elim
  | succ m => simpa only [WT, hu] using h
theorem WT.int {k : IntKind} (hu : P.underlying t = some (.int k)) (h : WT P m t x) : ∃ n, x = [.int k n] ∧ (Lit.int k n).wf = true := by
  cases m with
  | zero => exact h.elim
  | succ m => simpa only [WT, hu] using h
theorem WT.str (hu : P.underlying t = some .string) (h : WT P m t x) : ∃ s : ByteArray, x = [.str s] ∧ s.size ≤ maxLen := by
  cases m with
  | zero => exact h.elim
  | succ m => simpa only [WT, hu] using h
theorem WT.slice {e z : Nat} (hu : P.underlying t = some (.slice e)) (hz : sizeA P e = some z) (h : WT P m t x) : ∃ (m' : Nat) (xss : List (List D)), m = m' + 1 ∧ x = [.sl none z xss.length xss.flatten] ∧ xss.length ≤ maxLen ∧ ∀ y ∈ xss, WT P m' e y := by
  cases m with
  | zero => exact h.elim
  | succ m =>
    simp only [WT, hu, cellsOf_size hz] at h
    obtain ⟨xss, rfl, h2, h3⟩ := h
    exact ⟨m, xss, rfl, rfl, h2, fun y hy => (h3 y hy).2⟩
theorem WT.struct {fs : Array Field} (hu : P.underlying t = some (.struct fs)) (h : WT P m t x) : ∃ m', m = m' + 1 ∧ WTs P (WT P m') (fs.toList.map (·.type)) x := by
  cases m with
  | zero => exact h.elim
  | succ m =>
    simp only [WT, hu] at h
    exact ⟨m, rfl, h⟩
theorem WTs.cons {f : TypeId → List D → Prop} {t : Nat} {ts : List TypeId} {ds : List D} (h : WTs P f (t :: ts) ds) : ∃ x y, ds = x ++ y ∧ f t x ∧ WTs P f ts y := by
  obtain ⟨x, y, h1, _, h3, h4⟩ := h
  exact ⟨x, y, h1, h3, h4⟩
theorem WTs.nil {f : TypeId → List D → Prop} {ds : List D} (h : WTs P f [] ds) : ds = [] := h
end
theorem list_of {α : Type} {c : α → List D} {p : α → Prop} : ∀ {xss : List (List D)}, (∀ x ∈ xss, ∃ a, x = c a ∧ p a) → ∃ l : List α, xss = l.map c ∧ ∀ a ∈ l, p a
  | [], _ => ⟨[], rfl, by simp⟩
  | x :: xss, h => by
    obtain ⟨a, rfl, ha⟩ := h x (by simp)
    obtain ⟨l, rfl, hl⟩ := list_of (c := c) (p := p) (xss := xss) fun y hy => h y (by simp [hy])
    exact ⟨a :: l, rfl, by simpa using ⟨ha, hl⟩⟩
theorem flat_map {α : Type} {c : α → List D} {l : List α} : (l.map c).flatten = l.flatMap c := by simp [List.flatMap]
end Go.DM
