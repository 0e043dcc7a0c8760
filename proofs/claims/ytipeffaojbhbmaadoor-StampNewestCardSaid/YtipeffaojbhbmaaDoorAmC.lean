/- An abstract machine over Go's operations: what it means that a world bears an abstract memory. -/
import Derived.Test.YtipeffaojbhbmaaDoorAmB
import Derived.Laws.Rows
set_option linter.unusedSimpArgs false
set_option linter.unusedVariables false
namespace Go.AM
open Go

/-- Where a block lies: its object, its first cell, the end of what is its own, the cells of an element. -/
structure Place where
  B : Nat
  base : Nat
  fin : Nat
  sz : Nat

inductive VRel (n : Nat) (φ : Nat → Place) : Value → Value → Prop
  | bool (b) : VRel n φ (.bool b) (.bool b)
  | int (k x) : VRel n φ (.int k x) (.int k x)
  | string (s) : VRel n φ (.string s) (.string s)
  | ptrNil : VRel n φ (.pointer none) (.pointer none)
  | ptr (h o) (hn : h < n) : VRel n φ (.pointer (some ⟨h, o, none⟩)) (.pointer (some ⟨(φ h).B, (φ h).base + o, none⟩))
  | slNil (l c) : VRel n φ (.slice none l c) (.slice none l c)
  | sl (h o l m c) (hn : h < n) (hl : l ≤ m) (hm : m ≤ c) (hf : (φ h).base + o + c * (φ h).sz ≤ (φ h).fin) :
      VRel n φ (.slice (some ⟨h, o, none⟩) l m) (.slice (some ⟨(φ h).B, (φ h).base + o, none⟩) l c)
  | slEmp (h o b) (hn : h < n) : VRel n φ (.slice (some ⟨h, o, none⟩) 0 0) (.slice (some b) 0 0)
  | slFree (b) : VRel n φ (.slice (some freeA) 0 0) (.slice (some b) 0 0)
  | func (fn : Fn) (xs ys cs ds : Array Value) (h1 : xs.size = ys.size) (h2 : ∀ i (h : i < xs.size) (h' : i < ys.size), VRel n φ xs[i] ys[i])
      (h3 : cs.size = ds.size) (h4 : ∀ i (h : i < cs.size) (h' : i < ds.size), VRel n φ cs[i] ds[i]) : VRel n φ (.func fn xs cs) (.func fn ys ds)
  | nilFunc : VRel n φ .nilFunc .nilFunc
  | nilIface : VRel n φ .nilIface .nilIface
  | iface (t v v') (h : VRel n φ v v') : VRel n φ (.iface t v) (.iface t v')
  | agg (xs ys : Array Value) (h1 : xs.size = ys.size) (h2 : ∀ i (h : i < xs.size) (h' : i < ys.size), VRel n φ xs[i] ys[i]) : VRel n φ (.agg xs) (.agg ys)
  | tuple (xs ys : Array Value) (h1 : xs.size = ys.size) (h2 : ∀ i (h : i < xs.size) (h' : i < ys.size), VRel n φ xs[i] ys[i]) : VRel n φ (.tuple xs) (.tuple ys)
  | glob (g) : VRel n φ (.map (some g)) (.pointer (some ⟨g, 0, none⟩))

theorem VRel.mono {n n' : Nat} {φ φ' : Nat → Place} {v v' : Value} (h : VRel n φ v v') (hn : n ≤ n') (hk : ∀ i, i < n → φ' i = φ i) : VRel n' φ' v v' := by
  induction h with
  | bool b => exact .bool b
  | int k x => exact .int k x
  | string s => exact .string s
  | ptrNil => exact .ptrNil
  | ptr h o hh => rw [← hk h hh]; exact .ptr h o (Nat.lt_of_lt_of_le hh hn)
  | slNil l c => exact .slNil l c
  | sl h o l m c hh hl hm hf => rw [← hk h hh] at hf ⊢; exact .sl h o l m c (Nat.lt_of_lt_of_le hh hn) hl hm hf
  | slEmp h o b hh => exact .slEmp h o b (Nat.lt_of_lt_of_le hh hn)
  | slFree b => exact .slFree b
  | func fn xs ys cs ds h1 _ h3 _ i2 i4 => exact .func fn xs ys cs ds h1 i2 h3 i4
  | nilFunc => exact .nilFunc
  | nilIface => exact .nilIface
  | iface t v v' _ ih => exact .iface t v v' ih
  | agg xs ys h1 _ i2 => exact .agg xs ys h1 i2
  | tuple xs ys h1 _ i2 => exact .tuple xs ys h1 i2
  | glob g => exact .glob g

theorem VRel.scalar {n : Nat} {φ : Nat → Place} {v : Value} (h : scalarV v = true) : VRel n φ v v := by
  cases v with
  | bool b => exact .bool b
  | int k x => exact .int k x
  | string s => exact .string s
  | pointer a => cases a with | none => exact .ptrNil | some a => simp [scalarV] at h
  | slice a l c => cases a with | none => exact .slNil l c | some a => simp [scalarV] at h
  | nilFunc => exact .nilFunc
  | nilIface => exact .nilIface
  | _ => simp [scalarV] at h

theorem VRel.closed {n : Nat} {φ : Nat → Place} {v : Value} (h : closedV v = true) : VRel n φ v v := by
  cases v with
  | agg xs =>
    simp only [closedV, Array.all_eq_true] at h
    exact .agg xs xs rfl fun i hi _ => .scalar (h i hi)
  | tuple xs =>
    simp only [closedV, Array.all_eq_true] at h
    exact .tuple xs xs rfl fun i hi _ => .scalar (h i hi)
  | _ => exact .scalar (by simpa [closedV] using h)

theorem VRel.undef {n : Nat} {φ : Nat → Place} : VRel n φ undef undef := .tuple _ _ rfl (fun i h => by simp at h)

theorem VRel.scalar_eq {n : Nat} {φ : Nat → Place} {v v' : Value} (h : VRel n φ v v') (hs : scalarV v = true) : v' = v := by
  cases h <;> first | rfl | (simp [scalarV] at hs)

theorem VRel.closed_eq {n : Nat} {φ : Nat → Place} {v v' : Value} (h : VRel n φ v v') (hs : closedV v = true) : v' = v := by
  cases h with
  | agg xs ys h1 h2 =>
    simp only [closedV, Array.all_eq_true] at hs
    congr 1
    exact Array.ext h1.symm fun i hi hi' => (h2 i hi' hi).scalar_eq (hs i hi')
  | tuple xs ys h1 h2 =>
    simp only [closedV, Array.all_eq_true] at hs
    congr 1
    exact Array.ext h1.symm fun i hi hi' => (h2 i hi' hi).scalar_eq (hs i hi')
  | _ => first | rfl | (simp [closedV, scalarV] at hs)

theorem VRel.low {n : Nat} {φ : Nat → Place} {v v' : Value} (h : VRel n φ v v') : VLow n v := by
  induction h with
  | bool b => exact .scalar rfl
  | int k x => exact .scalar rfl
  | string s => exact .scalar rfl
  | ptrNil => exact .scalar rfl
  | ptr h o hh => exact .ptr h o hh
  | slNil l c => exact .scalar rfl
  | sl h o l m c hh hl hm hf => exact .sl h o l m hh
  | slEmp h o b hh => exact .sl h o 0 0 hh
  | slFree b => exact .free
  | func fn xs ys cs ds h1 _ h3 _ i2 i4 => exact .func fn xs cs (fun i h => i2 i h (h1 ▸ h)) (fun i h => i4 i h (h3 ▸ h))
  | nilFunc => exact .scalar rfl
  | nilIface => exact .scalar rfl
  | iface t v v' _ ih => exact .iface t v ih
  | agg xs ys h1 _ i2 => exact .agg xs fun i h => i2 i h (h1 ▸ h)
  | tuple xs ys h1 _ i2 => exact .tuple xs fun i h => i2 i h (h1 ▸ h)
  | glob g => exact .glob g

theorem VLow.lower {n n' : Nat} {φ : Nat → Place} {v : Value} (h : VLow n v) : ∀ {v' : Value}, VRel n' φ v v' → VRel n φ v v' := by
  induction h with
  | scalar hs => intro v' h; rw [h.scalar_eq hs]; exact .scalar hs
  | ptr h o hn => intro v' h; cases h; exact .ptr _ o hn
  | sl h o l m hn =>
    intro v' h
    cases h with
    | sl _ _ _ _ c hh hl hm hf => exact .sl _ _ _ _ c hn hl hm hf
    | slEmp _ _ b _ => exact .slEmp _ _ _ hn
  | free =>
    intro v' h
    cases h with
    | slFree b => exact .slFree b
  | func fn xs cs _ _ i1 i2 =>
    intro v' h
    cases h with
    | func _ _ ys _ ds h1 h2 h3 h4 => exact .func _ _ _ _ _ h1 (fun i h h' => i1 i h (h2 i h h')) h3 (fun i h h' => i2 i h (h4 i h h'))
  | iface t v _ ih => intro v' h; cases h with | iface _ _ _ h => exact .iface _ _ _ (ih h)
  | agg xs _ ih => intro v' h; cases h with | agg _ ys h1 h2 => exact .agg _ _ h1 fun i h h' => ih i h (h2 i h h')
  | tuple xs _ ih => intro v' h; cases h with | tuple _ ys h1 h2 => exact .tuple _ _ h1 fun i h h' => ih i h (h2 i h h')
  | glob g => intro v' h; cases h; exact .glob g

theorem VRel.oneCell {n : Nat} {φ : Nat → Place} {v v' : Value} (h : VRel n φ v v') : v'.oneCell' = v.oneCell' := by
  cases h <;> rfl

/-- Cells pointwise. -/
def LRel (n : Nat) (φ : Nat → Place) (vs vs' : List Value) : Prop := vs.length = vs'.length ∧ ∀ (i : Nat) (v v' : Value), vs[i]? = some v → vs'[i]? = some v' → VRel n φ v v'

theorem LRel.nil {n φ} : LRel n φ [] [] := ⟨rfl, fun i v v' h => by simp at h⟩
theorem LRel.cons {n φ v v' vs vs'} (h : VRel n φ v v') (hs : LRel n φ vs vs') : LRel n φ (v :: vs) (v' :: vs') := by
  refine ⟨by simp [hs.1], fun i u u' hu hu' => ?_⟩
  cases i with
  | zero => simp at hu hu'; subst hu hu'; exact h
  | succ i => simp at hu hu'; exact hs.2 i u u' hu hu'
theorem LRel.head {n φ v v' vs vs'} (h : LRel n φ (v :: vs) (v' :: vs')) : VRel n φ v v' := h.2 0 v v' rfl rfl
theorem LRel.tail {n φ v v' vs vs'} (h : LRel n φ (v :: vs) (v' :: vs')) : LRel n φ vs vs' :=
  ⟨by simpa using h.1, fun i u u' hu hu' => h.2 (i + 1) u u' (by simpa using hu) (by simpa using hu')⟩
theorem LRel.mono {n n' : Nat} {φ φ' : Nat → Place} {v v' : List Value} (h : LRel n φ v v') (hn : n ≤ n') (hk : ∀ i, i < n → φ' i = φ i) : LRel n' φ' v v' :=
  ⟨h.1, fun i u u' hu hu' => (h.2 i u u' hu hu').mono hn hk⟩
theorem LRel.append {n φ a a' b b'} (h : LRel n φ a a') (k : LRel n φ b b') : LRel n φ (a ++ b) (a' ++ b') := by
  induction a generalizing a' with
  | nil => cases a' with | nil => exact k | cons _ _ => simp [LRel] at h
  | cons x xs ih =>
    cases a' with
    | nil => simp [LRel] at h
    | cons y ys => exact .cons h.head (ih h.tail)
theorem LRel.of_scalar {n φ} {l : List Value} (h : ∀ v ∈ l, scalarV v = true) : LRel n φ l l :=
  ⟨rfl, fun i v v' hv hv' => by rw [hv] at hv'; cases hv'; exact .scalar (h v (List.mem_of_getElem? hv))⟩

theorem VRel.cells {n φ v v'} (h : VRel n φ v v') : LRel n φ v.cells.toList v'.cells.toList := by
  cases h with
  | agg xs ys h1 h2 =>
    refine ⟨by simpa [Value.cells] using h1, fun i u u' hu hu' => ?_⟩
    simp only [Value.cells, Array.getElem?_toList] at hu hu'
    obtain ⟨hi, rfl⟩ := Array.getElem?_eq_some_iff.1 hu
    obtain ⟨hi', rfl⟩ := Array.getElem?_eq_some_iff.1 hu'
    exact h2 i hi hi'
  | _ => exact .cons (by constructor <;> assumption) .nil

theorem VRel.agg_of {n φ l l'} (h : LRel n φ l l') : VRel n φ (.agg l.toArray) (.agg l'.toArray) :=
  .agg _ _ (by simpa using h.1) fun i hi hi' => h.2 i _ _ (by simp at hi; simp [hi]) (by simp at hi'; simp [hi'])
theorem VRel.tuple_of {n φ l l'} (h : LRel n φ l l') : VRel n φ (.tuple l.toArray) (.tuple l'.toArray) :=
  .tuple _ _ (by simpa using h.1) fun i hi hi' => h.2 i _ _ (by simp at hi; simp [hi]) (by simp at hi'; simp [hi'])

/-- A place bears a block. -/
def Cov (n : Nat) (φ : Nat → Place) (w : World) (p : Place) (b : Blk) : Prop :=
  ∃ c e fr, w.heap[p.B]? = some (.cells c e fr) ∧ p.base + b.cells.length ≤ p.fin ∧ p.fin ≤ c.size ∧ p.sz = b.sz ∧
    (∀ (i : Nat) (v : Value), b.cells[i]? = some v → ∃ v' : Value, c[p.base + i]? = some v' ∧ VRel n φ v v') ∧
    (b.rw = true → ∀ i, p.base ≤ i → i < p.fin → ¬(fr.1 ≤ i ∧ i < fr.2)) ∧ b.lo ≤ b.cells.length

/-- How far a block reaches: over its room, if it may be written; else over its cells. -/
def rEnd (p : Place) (b : Blk) : Nat := if b.rw then p.fin else p.base + b.cells.length
/-- From where on a block is apart of another one. -/
def wBeg (p : Place) (b : Blk) (h' : Nat) : Nat := if h' ∈ b.par then p.base + b.lo else p.base

structure Sim (φ : Nat → Place) (H : Heap) (w : World) : Prop where
  cov : ∀ h b, hget H h = some b → Cov H.length φ w (φ h) b
  apart : ∀ h h' b b', h ≠ h' → hget H h = some b → hget H h' = some b' → b.rw = true →
    (φ h).B ≠ (φ h').B ∨ (φ h).fin ≤ (φ h').base ∨ rEnd (φ h') b' ≤ wBeg (φ h) b h'
  par : ∀ h b p b', hget H h = some b → p ∈ b.par → hget H p = some b' → b'.rw = false
  parlt : ∀ h b p, hget H h = some b → p ∈ b.par → p < H.length

/-- From one memory to a later one. -/
structure Step (base : Nat) (φ : Nat → Place) (H : Heap) (w : World) (φ' : Nat → Place) (H' : Heap) (w' : World) : Prop where
  len : H.length ≤ H'.length
  keep : ∀ h, h < H.length → φ' h = φ h
  size : w.heap.size ≤ w'.heap.size
  os : w'.os = w.os
  tape : w'.tape = w.tape
  output : w'.output = w.output
  frame : ∀ b, b < w.heap.size → (∀ h blk, base ≤ h → hget H h = some blk → blk.rw = true → (φ h).B ≠ b) → w'.heap[b]? = w.heap[b]?
  old : ∀ h b', h < H.length → hget H' h = some b' → ∃ b, hget H h = some b ∧ (b'.rw = true → b.rw = true)
  later : ∀ h' b', base ≤ h' → hget H' h' = some b' → b'.rw = true → w.heap.size ≤ (φ' h').B ∨ ∃ h b, base ≤ h ∧ hget H h = some b ∧ b.rw = true ∧ (φ h).B = (φ' h').B
  sim : Sim φ' H' w'

theorem Step.refl {base φ H w} (hs : Sim φ H w) : Step base φ H w φ H w :=
  ⟨Nat.le_refl _, fun _ _ => rfl, Nat.le_refl _, rfl, rfl, rfl, fun _ _ _ => rfl, fun h b' _ hb => ⟨b', hb, id⟩, fun h b hb hg hr => .inr ⟨h, b, hb, hg, hr, rfl⟩, hs⟩

theorem Step.trans {base φ H w φ1 H1 w1 φ2 H2 w2} (s : Step base φ H w φ1 H1 w1) (t : Step base φ1 H1 w1 φ2 H2 w2) : Step base φ H w φ2 H2 w2 where
  len := Nat.le_trans s.len t.len
  keep h hh := (t.keep h (Nat.lt_of_lt_of_le hh s.len)).trans (s.keep h hh)
  size := Nat.le_trans s.size t.size
  os := t.os.trans s.os
  tape := t.tape.trans s.tape
  output := t.output.trans s.output
  frame b hb hn := by
    rw [t.frame b (Nat.lt_of_lt_of_le hb s.size) (fun h blk hbase hg hr he => ?_), s.frame b hb hn]
    rcases s.later h blk hbase hg hr with hl | ⟨h0, b0, hb0, hg0, hr0, e0⟩
    · omega
    · exact hn h0 b0 hb0 hg0 hr0 (e0.trans he)
  old h b' hh hg := by
    obtain ⟨b1, hg1, e1⟩ := t.old h b' (Nat.lt_of_lt_of_le hh s.len) hg
    obtain ⟨b, hg0, e0⟩ := s.old h b1 hh hg1
    exact ⟨b, hg0, fun hr => e0 (e1 hr)⟩
  later h' b' hb hg hr := by
    rcases t.later h' b' hb hg hr with hl | ⟨h1, b1, hb1, hg1, hr1, e1⟩
    · exact .inl (Nat.le_trans s.size hl)
    · rcases s.later h1 b1 hb1 hg1 hr1 with hl | ⟨h0, b0, hb0, hg0, hr0, e0⟩
      · exact .inl (e1 ▸ hl)
      · exact .inr ⟨h0, b0, hb0, hg0, hr0, e0.trans e1⟩
  sim := t.sim

theorem Step.vrel {base φ H w φ' H' w' v v'} (s : Step base φ H w φ' H' w') (h : VRel H.length φ v v') : VRel H'.length φ' v v' := h.mono s.len s.keep
theorem Step.lrel {base φ H w φ' H' w' v v'} (s : Step base φ H w φ' H' w') (h : LRel H.length φ v v') : LRel H'.length φ' v v' := h.mono s.len s.keep

theorem hget_lt {H : Heap} {h b} (e : hget H h = some b) : h < H.length := by
  rcases Nat.lt_or_ge h H.length with hl | hl
  · exact hl
  · simp [hget, List.getElem?_eq_none hl] at e

theorem hget_new_old {H : Heap} {b : Option Blk} {h : Nat} (hh : h < H.length) : hget (H ++ [b]) h = hget H h := by
  simp [hget, List.getElem?_append_left hh]
theorem hget_new_at {H : Heap} {b : Option Blk} : hget (H ++ [b]) H.length = b := by
  simp [hget]
theorem hget_new_gt {H : Heap} {b : Option Blk} {h : Nat} (hh : H.length < h) : hget (H ++ [b]) h = none := by
  simp [hget, List.getElem?_eq_none (show (H ++ [b]).length ≤ h by simp; omega)]
theorem hget_set_ne {H : Heap} {b : Option Blk} {h h' : Nat} (hh : h ≠ h') : hget (hset H h b) h' = hget H h' := by
  simp [hget, hset, List.getElem?_set_ne hh]
theorem hget_set_eq {H : Heap} {b : Option Blk} {h : Nat} (hh : h < H.length) : hget (hset H h b) h = b := by
  simp [hget, hset, hh]
theorem length_hset {H : Heap} {b : Option Blk} {h : Nat} : (hset H h b).length = H.length := by simp [hset]

def extP (φ : Nat → Place) (n : Nat) (p : Place) : Nat → Place := fun h => if h = n then p else φ h
theorem extP_lt {φ n p h} (hh : h < n) : extP φ n p h = φ h := by simp [extP, Nat.ne_of_lt hh]
theorem extP_eq {φ n p} : extP φ n p n = p := by simp [extP]

/-- A new block. -/
theorem step_newB {base φ H w} (hs : Sim φ H w) {nb : Blk} {cs : Array Value} {e : TypeId} {fr : Nat × Nat} {fin : Nat} {w1 : World}
    (hw : w1.heap = w.heap.push (.cells cs e fr)) (ho : w1.os = w.os) (ht : w1.tape = w.tape) (hu : w1.output = w.output)
    (hl : nb.cells.length ≤ fin) (hf : fin ≤ cs.size) (hfr : ∀ i, i < fin → ¬(fr.1 ≤ i ∧ i < fr.2)) (hlo : nb.lo ≤ nb.cells.length)
    (hpar : ∀ p ∈ nb.par, p < H.length ∧ ∀ b', hget H p = some b' → b'.rw = false)
    (hc : ∀ (i : Nat) (v : Value), nb.cells[i]? = some v → ∃ v' : Value, cs[i]? = some v' ∧ VRel H.length φ v v') :
    Step base φ H w (extP φ H.length ⟨w.heap.size, 0, fin, nb.sz⟩) (newB H nb) w1 := by
  have hk : ∀ h, h < H.length → extP φ H.length ⟨w.heap.size, 0, fin, nb.sz⟩ h = φ h := fun h hh => extP_lt hh
  have hold : ∀ b, b < w.heap.size → w1.heap[b]? = w.heap[b]? := fun b hb => by
    rw [hw, Array.getElem?_push_lt hb]; simp [hb]
  have hlen : (newB H nb).length = H.length + 1 := by simp [newB]
  have hBlt : ∀ h b, hget H h = some b → (φ h).B < w.heap.size := fun h b hg => by
    obtain ⟨c, e, fr, hB, _⟩ := hs.cov h b hg
    exact (Array.getElem?_eq_some_iff.1 hB).1
  refine ⟨by omega, hk, by rw [hw]; simp, ho, ht, hu, fun b hb _ => hold b hb, ?_, ?_, ?_, ?_, ?_, ?_⟩
  · intro h b' hh hg
    rw [newB, hget_new_old hh] at hg
    exact ⟨b', hg, id⟩
  · intro h' b' hb hg hr
    have hlt := hget_lt hg
    rw [hlen] at hlt
    rcases Nat.lt_or_ge h' H.length with h1 | h1
    · rw [newB, hget_new_old h1] at hg
      rw [hk h' h1]
      exact .inr ⟨h', b', hb, hg, hr, rfl⟩
    · have : h' = H.length := by omega
      subst this
      rw [extP_eq]
      exact .inl (Nat.le_refl _)
  · intro h b hg
    have hlt := hget_lt hg
    rw [hlen] at hlt ⊢
    rcases Nat.lt_or_ge h H.length with h1 | h1
    · rw [newB, hget_new_old h1] at hg
      obtain ⟨c, e', fr', hB, g1, g2, g3, g4, g5, g6⟩ := hs.cov h b hg
      rw [hk h h1]
      refine ⟨c, e', fr', by rw [hold _ (hBlt h b hg)]; exact hB, g1, g2, g3, fun i v hv => ?_, g5, g6⟩
      obtain ⟨v', hv', hr⟩ := g4 i v hv
      exact ⟨v', hv', hr.mono (by omega) hk⟩
    · have : h = H.length := by omega
      subst this
      rw [newB, hget_new_at] at hg
      cases hg
      rw [extP_eq]
      refine ⟨cs, e, fr, by rw [hw]; simp, by simpa using hl, hf, rfl, fun i v hv => ?_, fun _ i _ hi => hfr i hi, hlo⟩
      obtain ⟨v', hv', hr⟩ := hc i v hv
      exact ⟨v', by simpa using hv', hr.mono (by omega) hk⟩
  · intro h h' b b' hne hg hg' hr
    have hlt := hget_lt hg
    have hlt' := hget_lt hg'
    rw [hlen] at hlt hlt'
    rcases Nat.lt_or_ge h H.length with h1 | h1 <;> rcases Nat.lt_or_ge h' H.length with h2 | h2
    · rw [newB, hget_new_old h1] at hg
      rw [newB, hget_new_old h2] at hg'
      rw [hk h h1, hk h' h2]
      exact hs.apart h h' b b' hne hg hg' hr
    · have : h' = H.length := by omega
      subst this
      rw [newB, hget_new_old h1] at hg
      rw [hk h h1, extP_eq]
      left
      have := hBlt h b hg
      simp; omega
    · have : h = H.length := by omega
      subst this
      rw [newB, hget_new_old h2] at hg'
      rw [hk h' h2, extP_eq]
      left
      have := hBlt h' b' hg'
      simp; omega
    · omega
  · intro h b p b' hg hp hg'
    have hlt := hget_lt hg
    rw [hlen] at hlt
    rcases Nat.lt_or_ge h H.length with h1 | h1
    · rw [newB, hget_new_old h1] at hg
      rcases Nat.lt_or_ge p H.length with h2 | h2
      · rw [newB, hget_new_old h2] at hg'
        exact hs.par h b p b' hg hp hg'
      · have hlt' := hget_lt hg'
        rw [hlen] at hlt'
        have : p = H.length := by omega
        subst this
        exact absurd (hs.parlt h b _ hg hp) (Nat.lt_irrefl _)
    · have : h = H.length := by omega
      subst this
      rw [newB, hget_new_at] at hg
      cases hg
      obtain ⟨hpl, hpr⟩ := hpar p hp
      rw [newB, hget_new_old hpl] at hg'
      exact hpr b' hg'
  · intro h b p hg hp
    have hlt := hget_lt hg
    rw [hlen] at hlt ⊢
    rcases Nat.lt_or_ge h H.length with h1 | h1
    · rw [newB, hget_new_old h1] at hg
      have := hs.parlt h b p hg hp
      omega
    · have : h = H.length := by omega
      subst this
      rw [newB, hget_new_at] at hg
      cases hg
      have := (hpar p hp).1
      omega

theorem step_new {base φ H w} (hs : Sim φ H w) {cells : List Value} {sz : Nat} {cs : Array Value} {e : TypeId} {fr : Nat × Nat} {fin : Nat} {w1 : World}
    (hw : w1.heap = w.heap.push (.cells cs e fr)) (ho : w1.os = w.os) (ht : w1.tape = w.tape) (hu : w1.output = w.output)
    (hl : cells.length ≤ fin) (hf : fin ≤ cs.size) (hfr : ∀ i, i < fin → ¬(fr.1 ≤ i ∧ i < fr.2))
    (hc : ∀ (i : Nat) (v : Value), cells[i]? = some v → ∃ v' : Value, cs[i]? = some v' ∧ VRel H.length φ v v') :
    Step base φ H w (extP φ H.length ⟨w.heap.size, 0, fin, sz⟩) (newA H cells sz) w1 :=
  step_newB (nb := ⟨cells, sz, true, 0, []⟩) hs hw ho ht hu hl hf hfr (Nat.zero_le _) (fun p hp => by cases hp) hc

theorem Step.new_at {φ : Nat → Place} {H : Heap} {w : World} {fin sz : Nat} {cells : List Value} :
    VRel (newA H cells sz).length (extP φ H.length ⟨w.heap.size, 0, fin, sz⟩) (.pointer (some (atNew H))) (.pointer (some ⟨w.heap.size, 0, none⟩)) := by
  have := VRel.ptr (n := (newA H cells sz).length) (φ := extP φ H.length ⟨w.heap.size, 0, fin, sz⟩) H.length 0 (by simp [newA, newB])
  simpa [atNew, extP_eq] using this

end Go.AM
