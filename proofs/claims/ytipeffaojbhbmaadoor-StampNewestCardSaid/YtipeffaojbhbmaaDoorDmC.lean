/- A machine over Go's operations in which slices are values: memory read, written and made. -/
import Derived.Test.YtipeffaojbhbmaaDoorDmB
set_option linter.unusedSimpArgs false
set_option linter.unusedVariables false
namespace Go.DM
open Go Go.AM

/-- One more block, for a new object or a new slice. -/
def Rl.push (r : Rl) (kb : Bool) (H' : Heap) : Rl := ⟨r.n + 1, fun i => if i = r.n then r.H.length else r.ψ i, fun h => if h = r.H.length then kb else r.k h, H'⟩

theorem hget_ne_length {H : Heap} {h : Nat} {b : Blk} (hg : hget H h = some b) : h ≠ H.length := Nat.ne_of_lt (hget_lt hg)

theorem Rl.le_push {r : Rl} {kb : Bool} {H' : Heap} (hlen : r.H.length ≤ H'.length) (hold : ∀ h b, r.k h = true → hget r.H h = some b → ∃ b', hget H' h = some b' ∧ b'.cells = b.cells ∧ b'.sz = b.sz) : r.Le (r.push kb H') :=
  ⟨Nat.le_succ _, fun i hi => by simp [Rl.push, Nat.ne_of_lt hi], hlen, fun h b hk hg => ⟨by simp [Rl.push, hget_ne_length hg, hk], hold h b hk hg⟩⟩

theorem SRel.push {r : Rl} {S S1 : Mem} {kb : Bool} {H' : Heap} {nb : Blk} {x : Ob} (hS : SRel r S) (hlen : S1.length = S.length) (h1 : ∀ (i : Nat) (y : Ob), S1[i]? = some y → y ≠ .dead → S[i]? = some y)
    (hlenH : r.H.length ≤ H'.length) (hold : ∀ h b, r.k h = true → hget r.H h = some b → ∃ b', hget H' h = some b' ∧ b'.cells = b.cells ∧ b'.sz = b.sz)
    (hlive : ∀ (i : Nat) (y : Ob), S1[i]? = some y → y ≠ .dead → hget H' (r.ψ i) = hget r.H (r.ψ i)) (hnb : hget H' r.H.length = some nb) (hrw : nb.rw = true)
    (hx : (∃ cells, x = .obj cells ∧ nb.lo = 0 ∧ kb = false ∧ DL (r.push kb H') cells nb.cells) ∨ (x = .own ∧ kb = true)) : SRel (r.push kb H') (S1 ++ [x]) := by
  have le := Rl.le_push (kb := kb) hlenH hold
  have hn := hS.n
  have old : ∀ {i y}, (S1 ++ [x])[i]? = some y → i < r.n → S1[i]? = some y := by
    intro i y h hi
    rwa [List.getElem?_append_left (by omega)] at h
  have new : ∀ {i y}, (S1 ++ [x])[i]? = some y → ¬ i < r.n → i = r.n ∧ y = x := by
    intro i y h hi
    rw [List.getElem?_append_right (by omega)] at h
    have : i - S1.length = 0 := by
      rcases Nat.eq_zero_or_pos (i - S1.length) with h0 | h0
      · exact h0
      · rw [List.getElem?_eq_none (by simp; omega)] at h; cases h
    rw [this] at h
    simp at h
    exact ⟨by omega, h.symm⟩
  have psi : ∀ {i}, i < r.n → (r.push kb H').ψ i = r.ψ i := fun hi => le.ψ _ hi
  have psin : (r.push kb H').ψ r.n = r.H.length := by simp [Rl.push]
  have blk : ∀ {i y}, S1[i]? = some y → y ≠ .dead → ∃ b, hget r.H (r.ψ i) = some b ∧ b.rw = true := by
    intro i y h hy
    have := h1 i y h hy
    cases y with
    | obj cells =>
      obtain ⟨b, g, w, _⟩ := hS.obj i cells (by simp [objAt, this])
      exact ⟨b, g, w⟩
    | own => obtain ⟨b, g, w, _⟩ := hS.own i this; exact ⟨b, g, w⟩
    | dead => exact absurd rfl hy
  refine ⟨by simp [Rl.push, hlen, hn], ?_, ?_, ?_⟩
  · intro o cells ho
    have ho' : (S1 ++ [x])[o]? = some (.obj cells) := by
      unfold objAt at ho
      split at ho
      · cases ho; assumption
      · cases ho
    by_cases hi : o < r.n
    · have h0 := h1 o _ (old ho' hi) (by simp)
      obtain ⟨b, g, w, l, kk, dl⟩ := hS.obj o cells (by simp [objAt, h0])
      rw [psi hi]
      have hl := hlive o _ (old ho' hi) (by simp)
      refine ⟨b, hl.trans g, w, l, ?_, dl.mono le⟩
      simp [Rl.push, hget_ne_length g, kk]
    · obtain ⟨rfl, e⟩ := new ho' hi
      rw [psin]
      rcases hx with ⟨cells', e', l, kk, dl⟩ | ⟨e', _⟩
      · rw [e'] at e
        cases e
        exact ⟨nb, hnb, hrw, l, by simp [Rl.push, kk], dl⟩
      · rw [e'] at e; cases e
  · intro id ho
    by_cases hi : id < r.n
    · have h0 := h1 id _ (old ho hi) (by simp)
      obtain ⟨b, g, w, kk⟩ := hS.own id h0
      rw [psi hi]
      refine ⟨b, (hlive id _ (old ho hi) (by simp)).trans g, w, ?_⟩
      simp [Rl.push, hget_ne_length g, kk]
    · obtain ⟨rfl, e⟩ := new ho hi
      rw [psin]
      rcases hx with ⟨cells', e', _⟩ | ⟨e', kk⟩
      · rw [e'] at e; cases e
      · exact ⟨nb, hnb, hrw, by simp [Rl.push, kk]⟩
  · intro i j hij ⟨y, hy, hyd⟩ ⟨z, hz, hzd⟩
    by_cases hi : i < r.n <;> by_cases hj : j < r.n
    · rw [psi hi, psi hj]
      exact hS.inj i j hij ⟨y, h1 i y (old hy hi) hyd, hyd⟩ ⟨z, h1 j z (old hz hj) hzd, hzd⟩
    · obtain ⟨rfl, _⟩ := new hz hj
      rw [psi hi, psin]
      obtain ⟨b, g, _⟩ := blk (old hy hi) hyd
      exact hget_ne_length g
    · obtain ⟨rfl, _⟩ := new hy hi
      rw [psi hj, psin]
      obtain ⟨b, g, _⟩ := blk (old hz hj) hzd
      exact (hget_ne_length g).symm
    · exact absurd ((new hy hi).1.trans (new hz hj).1.symm) hij

theorem length_newB {H : Heap} {b : Blk} : (newB H b).length = H.length + 1 := by simp [newB]
theorem hget_newB {H : Heap} {b : Blk} : hget (newB H b) H.length = some b := hget_new_at
theorem hget_newB_lt {H : Heap} {b : Blk} {h : Nat} (hh : h < H.length) : hget (newB H b) h = hget H h := hget_new_old hh

theorem keep_newB {H : Heap} (b : Blk) (h : Nat) (c : Blk) (hg : hget H h = some c) : ∃ b', hget (newB H b) h = some b' ∧ b'.cells = c.cells ∧ b'.sz = c.sz :=
  ⟨c, by rw [hget_newB_lt (hget_lt hg)]; exact hg, rfl, rfl⟩

theorem live_blk {r : Rl} {S : Mem} (hS : SRel r S) {i : Nat} {y : Ob} (h : S[i]? = some y) (hy : y ≠ .dead) : ∃ b, hget r.H (r.ψ i) = some b ∧ b.rw = true := by
  cases y with
  | obj cells =>
    obtain ⟨b, g, w, _⟩ := hS.obj i cells (by simp [objAt, h])
    exact ⟨b, g, w⟩
  | own => obtain ⟨b, g, w, _⟩ := hS.own i h; exact ⟨b, g, w⟩
  | dead => exact absurd rfl hy

/-- A new object. -/
theorem new_obj {r : Rl} {S : Mem} {cells : List D} {vs : List Value} {sz : Nat} (hS : SRel r S) (hc : DL r cells vs) :
    let r' := r.push false (newA r.H vs sz)
    r.Le r' ∧ SRel r' (S ++ [.obj cells]) ∧ DRel r' (.ptr S.length 0) (.pointer (some (atNew r.H))) := by
  have le := Rl.le_push (r := r) (kb := false) (H' := newA r.H vs sz) (by simp [newA, length_newB]) (fun h b _ hg => keep_newB _ h b hg)
  refine ⟨le, SRel.push (nb := ⟨vs, sz, true, 0, []⟩) hS rfl (fun _ _ h _ => h) (by simp [newA, length_newB]) (fun h b _ hg => keep_newB _ h b hg) (fun i y h hy => ?_) hget_newB rfl (.inl ⟨cells, rfl, rfl, rfl, hc.mono le⟩), ?_⟩
  · obtain ⟨b, g, _⟩ := live_blk hS h hy
    exact hget_newB_lt (hget_lt g)
  · have := DRel.ptr (r := r.push false (newA r.H vs sz)) S.length 0 (by simp [Rl.push, hS.n])
    simpa [Rl.push, hS.n, atNew] using this

/-- A new slice. -/
theorem new_own {r : Rl} {S : Mem} {cells : List D} {vs : List Value} {sz len : Nat} (hS : SRel r S) (hc : DL r cells vs) (hl : cells.length = len * sz) :
    let r' := r.push true (newA r.H vs sz)
    r.Le r' ∧ SRel r' (S ++ [.own]) ∧ DRel r' (.sl (some S.length) sz len cells) (.slice (some (atNew r.H)) len len) := by
  have le := Rl.le_push (r := r) (kb := true) (H' := newA r.H vs sz) (by simp [newA, length_newB]) (fun h b _ hg => keep_newB _ h b hg)
  refine ⟨le, SRel.push (nb := ⟨vs, sz, true, 0, []⟩) hS rfl (fun _ _ h _ => h) (by simp [newA, length_newB]) (fun h b _ hg => keep_newB _ h b hg) (fun i y h hy => ?_) hget_newB rfl (.inr ⟨rfl, rfl⟩), ?_⟩
  · obtain ⟨b, g, _⟩ := live_blk hS h hy
    exact hget_newB_lt (hget_lt g)
  · refine .sl (some S.length) sz len cells vs r.H.length 0 len ⟨vs, sz, true, 0, []⟩ (by simp [Rl.push]) hget_newB rfl ?_ (Nat.le_refl _) hc.1 hl ?_ (hc.mono le).2
    · have := readA_mk (H := newA r.H vs sz) (h := r.H.length) (o := 0) (n := vs.length) hget_newB (by simp)
      rw [List.drop_zero, List.take_length] at this
      exact this
    · intro id e
      cases e
      have h1 : len * sz = vs.length := by rw [← hl]; exact hc.1
      exact ⟨by simp [Rl.push, hS.n], by simp [Rl.push, hS.n], rfl, by simpa using h1⟩

/-- A slice grows. -/
theorem grow_own {r : Rl} {S : Mem} {cells ncells : List D} {vs new : List Value} {sz len n id h o : Nat} {b : Blk} (hS : SRel r S) (hid : S[id]? = some Ob.own) (hψ : r.ψ id = h) (hg : hget r.H h = some b)
    (hr : (b.cells.drop o) = vs) (hc : DL r cells vs) (hl : cells.length = len * sz) (hn : DL r ncells new) (hnl : ncells.length = n * sz) :
    let H' := newB (hset r.H h (some { b with rw := false })) ⟨b.cells.drop o ++ new, sz, true, len * sz, h :: b.par⟩
    let r' := r.push true H'
    r.Le r' ∧ SRel r' (S.set id .dead ++ [.own]) ∧ DRel r' (.sl (some S.length) sz (len + n) (cells ++ ncells)) (.slice (some (atNew r.H)) (len + n) (len + n)) := by
  intro H' r'
  have hlt := hget_lt hg
  have hkeep : ∀ i c, r.k i = true → hget r.H i = some c → ∃ b', hget H' i = some b' ∧ b'.cells = c.cells ∧ b'.sz = c.sz := by
    intro i c _ hi
    by_cases e : i = h
    · subst e
      rw [hg] at hi
      cases hi
      exact ⟨{ b with rw := false }, by rw [hget_newB_lt (by rw [length_hset]; exact hlt), hget_set_eq hlt], rfl, rfl⟩
    · exact ⟨c, by rw [hget_newB_lt (by rw [length_hset]; exact hget_lt hi), hget_set_ne (Ne.symm e)]; exact hi, rfl, rfl⟩
  have hlenH : r.H.length ≤ H'.length := by simp [H', length_newB, length_hset]
  have le : r.Le r' := Rl.le_push hlenH hkeep
  have hnew : hget H' r.H.length = some ⟨b.cells.drop o ++ new, sz, true, len * sz, h :: b.par⟩ := by
    have := hget_newB (H := hset r.H h (some { b with rw := false })) (b := ⟨b.cells.drop o ++ new, sz, true, len * sz, h :: b.par⟩)
    rwa [length_hset] at this
  refine ⟨le, SRel.push (S1 := S.set id .dead) hS (by simp) (fun i y hi hy => ?_) hlenH hkeep (fun i y hi hy => ?_) hnew rfl (.inr ⟨rfl, rfl⟩), ?_⟩
  · simp only [List.getElem?_set] at hi
    split at hi
    · split at hi
      · cases hi; exact absurd rfl hy
      · cases hi
    · exact hi
  · have hne : i ≠ id := by
      rintro rfl
      simp only [List.getElem?_set_self'] at hi
      rw [hid] at hi
      simp at hi
      exact hy hi.symm
    have hi' : S[i]? = some y := by rwa [List.getElem?_set_ne (Ne.symm hne)] at hi
    obtain ⟨c, g, _⟩ := live_blk hS hi' hy
    have hψne : r.ψ i ≠ h := by
      rw [← hψ]
      exact hS.inj i id hne ⟨y, hi', hy⟩ ⟨_, hid, by simp⟩
    rw [hget_newB_lt (by rw [length_hset]; exact hget_lt g), hget_set_ne (Ne.symm hψne)]
  · have hcc : DL r' (cells ++ ncells) (b.cells.drop o ++ new) := by
      rw [hr]
      exact (hc.mono le).append (hn.mono le)
    have hlen : (cells ++ ncells).length = (len + n) * sz := by simp [hl, hnl, Nat.add_mul]
    refine .sl (some S.length) sz (len + n) (cells ++ ncells) (b.cells.drop o ++ new) r.H.length 0 (len + n) _ (by simp [r', Rl.push]) hnew rfl ?_ (Nat.le_refl _) hcc.1 hlen ?_ hcc.2
    · have := readA_mk (H := H') (h := r.H.length) (o := 0) (n := (b.cells.drop o ++ new).length) hnew (by simp)
      rw [List.drop_zero, List.take_length] at this
      exact this
    · intro id' e
      cases e
      refine ⟨by simp [r', Rl.push, hS.n], by simp [r', Rl.push, hS.n], rfl, ?_⟩
      simp only [Nat.zero_add]
      rw [← hlen]
      exact hcc.1
end Go.DM
