/- A machine over Go's operations in which slices are values: how it stands to the abstract memory. -/
import Derived.Test.YtipeffaojbhbmaaDoorDmA
set_option linter.unusedSimpArgs false
set_option linter.unusedVariables false
namespace Go.DM
open Go Go.AM

/-- How objects and tokens lie in a memory: how many there are, which block each has, which blocks are slices', the memory. -/
structure Rl where
  n : Nat
  ψ : Nat → Nat
  k : Nat → Bool
  H : Heap

/-- nil, or an empty slice that has no room. -/
def EmpV (v : Value) : Prop := v = .slice none 0 0 ∨ v = .slice (some freeA) 0 0

inductive DRel (r : Rl) : D → Value → Prop
  | bool (b) : DRel r (.bool b) (.bool b)
  | int (k n) : DRel r (.int k n) (.int k n)
  | str (s) : DRel r (.str s) (.string s)
  | nilp : DRel r .nilp (.pointer none)
  | ptr (o off) (ho : o < r.n) : DRel r (.ptr o off) (.pointer (some ⟨r.ψ o, off, none⟩))
  | eptr (cells : List D) (off : Nat) (vs : List Value) (h o : Nat) (hk : r.k h = true) (hr : readA r.H ⟨h, o, none⟩ vs.length = some vs) (hl : cells.length = vs.length)
      (hc : ∀ i (h1 : i < cells.length) (h2 : i < vs.length), DRel r cells[i] vs[i]) : DRel r (.eptr cells off) (.pointer (some ⟨h, o + off, none⟩))
  | nils : DRel r .nils (.slice none 0 0)
  | sl0 (v) (h : EmpV v) : DRel r .sl0 v
  | slx (a m) : DRel r .slx (.slice (some a) 0 m)
  | slE (sz v) (h : EmpV v) : DRel r (.sl none sz 0 []) v
  | sl (own : Option Nat) (sz len : Nat) (cells : List D) (vs : List Value) (h o m : Nat) (b : Blk) (hk : r.k h = true) (hg : hget r.H h = some b) (hz : b.sz = sz) (hr : readA r.H ⟨h, o, none⟩ vs.length = some vs)
      (hm : len ≤ m) (hl : cells.length = vs.length) (hs : cells.length = len * sz) (ho : ∀ id, own = some id → id < r.n ∧ r.ψ id = h ∧ m = len ∧ o + len * sz = b.cells.length)
      (hc : ∀ i (h1 : i < cells.length) (h2 : i < vs.length), DRel r cells[i] vs[i]) : DRel r (.sl own sz len cells) (.slice (some ⟨h, o, none⟩) len m)
  | fn (f : Fn) (xs cs : List D) (ys ds : Array Value) (h1 : xs.length = ys.size) (h2 : ∀ i (h : i < xs.length) (h' : i < ys.size), DRel r xs[i] ys[i])
      (h3 : cs.length = ds.size) (h4 : ∀ i (h : i < cs.length) (h' : i < ds.size), DRel r cs[i] ds[i]) : DRel r (.fn f xs cs) (.func f ys ds)
  | nilf : DRel r .nilf .nilFunc
  | iface (t d v) (h : DRel r d v) : DRel r (.iface t d) (.iface t v)
  | nili : DRel r .nili .nilIface
  | agg (xs : List D) (ys : Array Value) (h1 : xs.length = ys.size) (h2 : ∀ i (h : i < xs.length) (h' : i < ys.size), DRel r xs[i] ys[i]) : DRel r (.agg xs) (.agg ys)
  | tup (xs : List D) (ys : Array Value) (h1 : xs.length = ys.size) (h2 : ∀ i (h : i < xs.length) (h' : i < ys.size), DRel r xs[i] ys[i]) : DRel r (.tup xs) (.tuple ys)
  | bot (v) : DRel r .bot v

/-- What was there is there: blocks of slices read as they did. -/
structure Rl.Le (r r' : Rl) : Prop where
  n : r.n ≤ r'.n
  ψ : ∀ i, i < r.n → r'.ψ i = r.ψ i
  len : r.H.length ≤ r'.H.length
  k : ∀ h b, r.k h = true → hget r.H h = some b → r'.k h = true ∧ ∃ b', hget r'.H h = some b' ∧ b'.cells = b.cells ∧ b'.sz = b.sz

theorem Rl.Le.refl (r : Rl) : r.Le r := ⟨Nat.le_refl _, fun _ _ => rfl, Nat.le_refl _, fun _ b h g => ⟨h, b, g, rfl, rfl⟩⟩
theorem Rl.Le.trans {a b c : Rl} (x : a.Le b) (y : b.Le c) : a.Le c :=
  ⟨Nat.le_trans x.n y.n, fun i h => (y.ψ i (Nat.lt_of_lt_of_le h x.n)).trans (x.ψ i h), Nat.le_trans x.len y.len, fun h q hk hg => by
    obtain ⟨k1, b1, g1, e1, z1⟩ := x.k h q hk hg
    obtain ⟨k2, b2, g2, e2, z2⟩ := y.k h b1 k1 g1
    exact ⟨k2, b2, g2, e2.trans e1, z2.trans z1⟩⟩

theorem readA_some {H : Heap} {h o n : Nat} {vs : List Value} (hr : readA H ⟨h, o, none⟩ n = some vs) : ∃ b, hget H h = some b ∧ o + n ≤ b.cells.length ∧ vs = (b.cells.drop o).take n := by
  simp only [readA, Option.isSome_none, Bool.false_eq_true, if_false] at hr
  cases hg : hget H h with
  | none => simp [hg] at hr
  | some b =>
    simp only [hg] at hr
    split at hr
    · cases hr; exact ⟨b, rfl, by assumption, rfl⟩
    · cases hr
theorem readA_mk {H : Heap} {h o n : Nat} {b : Blk} (hg : hget H h = some b) (hl : o + n ≤ b.cells.length) : readA H ⟨h, o, none⟩ n = some ((b.cells.drop o).take n) := by
  simp [readA, hg, hl]
theorem Rl.Le.read {r r' : Rl} (l : r.Le r') {h o n : Nat} {vs : List Value} (hk : r.k h = true) (hr : readA r.H ⟨h, o, none⟩ n = some vs) : r'.k h = true ∧ readA r'.H ⟨h, o, none⟩ n = some vs := by
  obtain ⟨b, hg, hl, rfl⟩ := readA_some hr
  obtain ⟨k1, b1, g1, e1, z1⟩ := l.k h b hk hg
  exact ⟨k1, by rw [← e1]; exact readA_mk g1 (by rw [e1]; exact hl)⟩

theorem DRel.mono {r r' : Rl} (l : r.Le r') {d : D} {v : Value} (h : DRel r d v) : DRel r' d v := by
  induction h with
  | bool b => exact .bool b
  | int k n => exact .int k n
  | str s => exact .str s
  | nilp => exact .nilp
  | ptr o off ho => rw [← l.ψ o ho]; exact .ptr o off (Nat.lt_of_lt_of_le ho l.n)
  | eptr cells off vs h o hk hr hl _ ih => exact .eptr cells off vs h o (l.read hk hr).1 (l.read hk hr).2 hl ih
  | nils => exact .nils
  | sl0 v h => exact .sl0 v h
  | slx a m => exact .slx a m
  | slE sz v h => exact .slE sz v h
  | sl own sz len cells vs h o m b hk hg hz hr hm hl hs ho _ ih =>
    obtain ⟨k1, b1, g1, e1, z1⟩ := l.k h b hk hg
    exact .sl own sz len cells vs h o m b1 k1 g1 (z1.trans hz) (l.read hk hr).2 hm hl hs (fun id e => by
      obtain ⟨a1, a2, a3, a4⟩ := ho id e
      exact ⟨Nat.lt_of_lt_of_le a1 l.n, (l.ψ id a1).trans a2, a3, by rw [e1]; exact a4⟩) ih
  | fn f xs cs ys ds h1 _ h3 _ i2 i4 => exact .fn f xs cs ys ds h1 i2 h3 i4
  | nilf => exact .nilf
  | iface t d v _ ih => exact .iface t d v ih
  | nili => exact .nili
  | agg xs ys h1 _ ih => exact .agg xs ys h1 ih
  | tup xs ys h1 _ ih => exact .tup xs ys h1 ih
  | bot v => exact .bot v

/-- A value whose objects lie below a number. -/
inductive DLow (n : Nat) : D → Prop
  | bool (b) : DLow n (.bool b)
  | int (k x) : DLow n (.int k x)
  | str (s) : DLow n (.str s)
  | nilp : DLow n .nilp
  | ptr (o off) (h : o < n) : DLow n (.ptr o off)
  | eptr (cells : List D) (off : Nat) (h : ∀ i (h : i < cells.length), DLow n cells[i]) : DLow n (.eptr cells off)
  | nils : DLow n .nils
  | sl0 : DLow n .sl0
  | slx : DLow n .slx
  | sl (own : Option Nat) (sz len : Nat) (cells : List D) (ho : ∀ id, own = some id → id < n) (h : ∀ i (h : i < cells.length), DLow n cells[i]) : DLow n (.sl own sz len cells)
  | fn (f : Fn) (xs cs : List D) (h1 : ∀ i (h : i < xs.length), DLow n xs[i]) (h2 : ∀ i (h : i < cs.length), DLow n cs[i]) : DLow n (.fn f xs cs)
  | nilf : DLow n .nilf
  | iface (t d) (h : DLow n d) : DLow n (.iface t d)
  | nili : DLow n .nili
  | agg (xs : List D) (h : ∀ i (h : i < xs.length), DLow n xs[i]) : DLow n (.agg xs)
  | tup (xs : List D) (h : ∀ i (h : i < xs.length), DLow n xs[i]) : DLow n (.tup xs)
  | bot : DLow n .bot

theorem DRel.low {r : Rl} {d : D} {v : Value} (h : DRel r d v) : DLow r.n d := by
  induction h with
  | bool b => exact .bool b
  | int k n => exact .int k n
  | str s => exact .str s
  | nilp => exact .nilp
  | ptr o off ho => exact .ptr o off ho
  | eptr cells off vs h o hk hr hl _ ih => exact .eptr cells off fun i h => ih i h (hl ▸ h)
  | nils => exact .nils
  | sl0 v h => exact .sl0
  | slx a m => exact .slx
  | slE sz v h => exact .sl none sz 0 [] (fun id e => by cases e) fun i h => by simp at h
  | sl own sz len cells vs h o m b hk hg hz hr hm hl hs ho _ ih => exact .sl own sz len cells (fun id e => (ho id e).1) fun i h => ih i h (hl ▸ h)
  | fn f xs cs ys ds h1 _ h3 _ i2 i4 => exact .fn f xs cs (fun i h => i2 i h (h1 ▸ h)) fun i h => i4 i h (h3 ▸ h)
  | nilf => exact .nilf
  | iface t d v _ ih => exact .iface t d ih
  | nili => exact .nili
  | agg xs ys h1 _ ih => exact .agg xs fun i h => ih i h (h1 ▸ h)
  | tup xs ys h1 _ ih => exact .tup xs fun i h => ih i h (h1 ▸ h)
  | bot v => exact .bot

theorem DLow.lower {n : Nat} {d : D} (h : DLow n d) : ∀ {r : Rl} {v : Value}, DRel r d v → DRel ⟨n, r.ψ, r.k, r.H⟩ d v := by
  induction h with
  | bool b => intro r v h; cases h; exact .bool b
  | int k x => intro r v h; cases h; exact .int k x
  | str s => intro r v h; cases h; exact .str s
  | nilp => intro r v h; cases h; exact .nilp
  | ptr o off ho => intro r v h; cases h; exact .ptr (r := ⟨n, r.ψ, r.k, r.H⟩) o off ho
  | eptr cells off _ ih => intro r v h; cases h with | eptr _ _ vs h o hk hr hl hc => exact .eptr (r := ⟨n, r.ψ, r.k, r.H⟩) cells off vs h o hk hr hl fun i h1 h2 => ih i h1 (hc i h1 h2)
  | nils => intro r v h; cases h; exact .nils
  | sl0 => intro r v h; cases h with | sl0 _ h => exact .sl0 _ h
  | slx => intro r v h; cases h with | slx a m => exact .slx a m
  | sl own sz len cells ho _ ih =>
    intro r v h
    cases h with
    | sl _ _ _ _ vs h o m b hk hg hz hr hm hl hs ho' hc =>
      exact .sl (r := ⟨n, r.ψ, r.k, r.H⟩) own sz len cells vs h o m b hk hg hz hr hm hl hs (fun id e => ⟨ho id e, (ho' id e).2⟩) fun i h1 h2 => ih i h1 (hc i h1 h2)
    | slE _ _ h => exact .slE _ _ h
  | fn f xs cs _ _ i1 i2 => intro r v h; cases h with | fn _ _ _ ys ds h1 h2 h3 h4 => exact .fn f xs cs ys ds h1 (fun i a b => i1 i a (h2 i a b)) h3 fun i a b => i2 i a (h4 i a b)
  | nilf => intro r v h; cases h; exact .nilf
  | iface t d _ ih => intro r v h; cases h with | iface _ _ v h => exact .iface t d v (ih h)
  | nili => intro r v h; cases h; exact .nili
  | agg xs _ ih => intro r v h; cases h with | agg _ ys h1 h2 => exact .agg xs ys h1 fun i a b => ih i a (h2 i a b)
  | tup xs _ ih => intro r v h; cases h with | tup _ ys h1 h2 => exact .tup xs ys h1 fun i a b => ih i a (h2 i a b)
  | bot => intro r v h; exact .bot v

theorem DRel.ofS {r : Rl} (v : Value) : DRel r (ofS v) v := by
  cases v with
  | bool b => exact .bool b
  | int k n => exact .int k n
  | string s => exact .str s
  | pointer a => cases a with | none => exact .nilp | some a => exact .bot _
  | slice a l c =>
    cases a with
    | none => match l, c with | 0, 0 => exact .nils | 0, _ + 1 => exact .bot _ | _ + 1, _ => exact .bot _
    | some a => exact .bot _
  | nilFunc => exact .nilf
  | nilIface => exact .nili
  | _ => exact .bot _

theorem DRel.ofV {r : Rl} (v : Value) : DRel r (ofV v) v := by
  have key : DM.ofV v = DM.ofS v → DRel r (DM.ofV v) v := fun e => by rw [e]; exact .ofS v
  cases v with
  | agg xs => exact .agg _ _ (by simp) fun i h h' => by simp only [List.getElem_map, Array.getElem_toList]; exact .ofS _
  | tuple xs => exact .tup _ _ (by simp) fun i h h' => by simp only [List.getElem_map, Array.getElem_toList]; exact .ofS _
  | _ => exact key rfl

theorem DRel.undef {r : Rl} : DRel r dUndef undef := .tup _ _ rfl fun i h => by simp at h

theorem toS_eq {r : Rl} {d : D} {v u : Value} (h : DRel r d v) (e : toS d = some u) : v = u := by
  cases h <;> simp [toS] at e <;> first | exact e | exact e.symm

theorem toSs_eq {r : Rl} : ∀ {xs : List D} {us : List Value} (ys : List Value), xs.length = ys.length → (∀ i (h : i < xs.length) (h' : i < ys.length), DRel r xs[i] ys[i]) → toSs xs = some us → ys = us
  | [], us, ys, hl, _, e => by
    simp [toSs] at e
    subst e
    exact List.eq_nil_of_length_eq_zero (by simpa using hl.symm)
  | x :: xs, us, [], hl, _, _ => by simp at hl
  | x :: xs, us, y :: ys, hl, hr, e => by
    simp only [toSs] at e
    split at e
    · rename_i v vs hv hvs
      cases e
      have h0 : DRel r x y := hr 0 (by simp) (by simp)
      rw [toS_eq h0 hv]
      rw [toSs_eq ys (by simpa using hl) (fun i h h' => hr (i + 1) (by simpa using h) (by simpa using h')) hvs]
    · cases e

theorem toV_eq {r : Rl} {d : D} {v u : Value} (h : DRel r d v) (e : toV d = some u) : v = u := by
  cases h with
  | agg xs ys h1 h2 =>
    simp only [toV, Option.map_eq_some_iff] at e
    obtain ⟨us, e, rfl⟩ := e
    have := toSs_eq ys.toList (by simpa using h1) (fun i h h' => by simpa using h2 i h (by simpa using h')) e
    simp [← this]
  | tup xs ys h1 h2 =>
    simp only [toV, Option.map_eq_some_iff] at e
    obtain ⟨us, e, rfl⟩ := e
    have := toSs_eq ys.toList (by simpa using h1) (fun i h h' => by simpa using h2 i h (by simpa using h')) e
    simp [← this]
  | bot v => simp [toV, toS] at e
  | _ => simp [toV, toS] at e <;> first | exact e | exact e.symm

theorem toS_closed {d : D} {u : Value} (e : toS d = some u) : closedV u = true := by
  cases d <;> simp [toS] at e <;> subst e <;> rfl
theorem toS_scalar {d : D} {u : Value} (e : toS d = some u) : scalarV u = true := by
  cases d <;> simp [toS] at e <;> subst e <;> rfl
theorem toSs_scalar : ∀ {xs : List D} {us : List Value}, toSs xs = some us → ∀ v ∈ us, scalarV v = true
  | [], us, e => by simp [toSs] at e; subst e; simp
  | x :: xs, us, e => by
    simp only [toSs] at e
    split at e
    · rename_i v vs hv hvs
      cases e
      intro u hu
      rcases List.mem_cons.1 hu with rfl | hu
      · exact toS_scalar hv
      · exact toSs_scalar hvs u hu
    · cases e
theorem toV_closed {d : D} {u : Value} (e : toV d = some u) : closedV u = true := by
  have key : toV d = toS d → closedV u = true := fun k => toS_closed (k ▸ e)
  cases d with
  | agg xs =>
    simp only [toV, Option.map_eq_some_iff] at e
    obtain ⟨us, e, rfl⟩ := e
    simp only [closedV, Array.all_eq_true]
    intro i hi
    exact toSs_scalar e _ (by simp)
  | tup xs =>
    simp only [toV, Option.map_eq_some_iff] at e
    obtain ⟨us, e, rfl⟩ := e
    simp only [closedV, Array.all_eq_true]
    intro i hi
    exact toSs_scalar e _ (by simp)
  | _ => exact key rfl

/-- Cells pointwise. -/
def DL (r : Rl) (xs : List D) (vs : List Value) : Prop := xs.length = vs.length ∧ ∀ i (h : i < xs.length) (h' : i < vs.length), DRel r xs[i] vs[i]
theorem DL.nil {r} : DL r [] [] := ⟨rfl, fun i h => by simp at h⟩
theorem DL.cons {r x xs v vs} (h : DRel r x v) (hs : DL r xs vs) : DL r (x :: xs) (v :: vs) :=
  ⟨by simp [hs.1], fun i h1 h2 => by cases i with | zero => exact h | succ i => simpa using hs.2 i (by simpa using h1) (by simpa using h2)⟩
theorem DL.head {r x xs v vs} (h : DL r (x :: xs) (v :: vs)) : DRel r x v := h.2 0 (by simp) (by simp)
theorem DL.tail {r x xs v vs} (h : DL r (x :: xs) (v :: vs)) : DL r xs vs :=
  ⟨by simpa using h.1, fun i h1 h2 => h.2 (i + 1) (by simpa using h1) (by simpa using h2)⟩
theorem DL.mono {r r' : Rl} (l : r.Le r') {xs vs} (h : DL r xs vs) : DL r' xs vs := ⟨h.1, fun i h1 h2 => (h.2 i h1 h2).mono l⟩
theorem DL.append {r xs vs ys ws} (h : DL r xs vs) (k : DL r ys ws) : DL r (xs ++ ys) (vs ++ ws) := by
  refine ⟨by simp [h.1, k.1], fun i h1 h2 => ?_⟩
  rcases Nat.lt_or_ge i xs.length with hi | hi
  · rw [List.getElem_append_left hi, List.getElem_append_left (h.1 ▸ hi)]; exact h.2 i hi _
  · rw [List.getElem_append_right hi, List.getElem_append_right (h.1 ▸ hi)]
    have e := h.1
    simp only [← e]
    exact k.2 _ (by simp at h1; omega) _
theorem DL.drop {r xs vs} (h : DL r xs vs) (n : Nat) : DL r (xs.drop n) (vs.drop n) :=
  ⟨by simp [h.1], fun i h1 h2 => by simp only [List.getElem_drop]; exact h.2 _ _ _⟩
theorem DL.take {r xs vs} (h : DL r xs vs) (n : Nat) : DL r (xs.take n) (vs.take n) :=
  ⟨by simp [h.1], fun i h1 h2 => by simp only [List.getElem_take]; exact h.2 _ _ _⟩
theorem DL.get {r xs vs} (h : DL r xs vs) {i : Nat} {d : D} (e : xs[i]? = some d) : ∃ v, vs[i]? = some v ∧ DRel r d v := by
  obtain ⟨hi, rfl⟩ := List.getElem?_eq_some_iff.1 e
  exact ⟨vs[i]'(h.1 ▸ hi), by simp, h.2 i hi _⟩
theorem DL.set {r xs vs} (h : DL r xs vs) {i : Nat} {d : D} {v : Value} (hd : DRel r d v) : DL r (xs.set i d) (vs.set i v) := by
  refine ⟨by simp [h.1], fun j h1 h2 => ?_⟩
  simp only [List.getElem_set]
  split
  · exact hd
  · exact h.2 j _ _
theorem DL.map_ofS {r : Rl} (vs : List Value) : DL r (vs.map DM.ofS) vs := ⟨by simp, fun i h1 h2 => by simp only [List.getElem_map]; exact .ofS _⟩

theorem writeL_wr : ∀ (vs : List Value) (cs : List Value) (o : Nat), writeL cs o vs = wr cs o vs
  | [], _, _ => rfl
  | v :: vs, cs, o => by simp only [writeL, wr]; exact writeL_wr vs _ _
theorem wr_length {α : Type} : ∀ (vs : List α) (cs : List α) (o : Nat), (wr cs o vs).length = cs.length
  | [], _, _ => rfl
  | v :: vs, cs, o => by simp only [wr]; rw [wr_length vs]; simp
theorem DL.wr {r : Rl} : ∀ {ds : List D} {vs : List Value} {xs : List D} {ws : List Value} {o : Nat}, DL r xs ws → DL r ds vs → DL r (DM.wr xs o ds) (DM.wr ws o vs)
  | [], [], _, _, _, h, _ => h
  | [], _ :: _, _, _, _, _, k => by simp [DL] at k
  | _ :: _, [], _, _, _, _, k => by simp [DL] at k
  | d :: ds, v :: vs, xs, ws, o, h, k => by
    simp only [DM.wr]
    exact DL.wr (h.set k.head) k.tail

theorem one_eq {r : Rl} {d : D} {v : Value} (h : DRel r d v) (e : d.one = true) : v.oneCell' = true := by
  cases h <;> first | rfl | (simp [D.one] at e; done) | (rename_i h; rcases h with rfl | rfl <;> rfl)
theorem all_one {r : Rl} {xs : List D} {vs : List Value} (h : DL r xs vs) (e : xs.all D.one = true) : vs.all Value.oneCell' = true := by
  simp only [List.all_eq_true] at e ⊢
  intro v hv
  obtain ⟨i, hi, rfl⟩ := List.mem_iff_getElem.1 hv
  exact one_eq (h.2 i (h.1 ▸ hi) hi) (e _ (List.getElem_mem _))

theorem cellsD_rel {r : Rl} {d : D} {v : Value} (h : DRel r d v) {xs : List D} (e : cellsD d = some xs) : DL r xs v.cells.toList := by
  cases h with
  | agg xs ys h1 h2 =>
    simp only [cellsD, Option.some.injEq] at e
    subst e
    exact ⟨by simpa [Value.cells] using h1, fun i h h' => by simp only [Value.cells, Array.getElem_toList]; exact h2 i h _⟩
  | tup => simp [cellsD] at e
  | bot => simp [cellsD] at e
  | slx a m =>
    simp only [cellsD, Option.some.injEq] at e
    subst e
    exact .cons (.slx _ _) .nil
  | sl0 v hv =>
    simp only [cellsD, Option.some.injEq] at e
    subst e
    rcases hv with rfl | rfl <;> exact .cons (.sl0 _ (by simp [EmpV])) .nil
  | slE sz v hv =>
    simp only [cellsD, Option.some.injEq] at e
    subst e
    rcases hv with rfl | rfl <;> exact .cons (.slE _ _ (by simp [EmpV])) .nil
  | _ =>
    simp only [cellsD, Option.some.injEq] at e
    subst e
    refine .cons ?_ .nil
    constructor <;> assumption

/-- What memory holds, in the abstract memory. -/
structure SRel (r : Rl) (S : Mem) : Prop where
  n : r.n = S.length
  obj : ∀ o cells, objAt S o = some cells → ∃ b, hget r.H (r.ψ o) = some b ∧ b.rw = true ∧ b.lo = 0 ∧ r.k (r.ψ o) = false ∧ DL r cells b.cells
  own : ∀ id : Nat, S[id]? = some Ob.own → ∃ b, hget r.H (r.ψ id) = some b ∧ b.rw = true ∧ r.k (r.ψ id) = true
  inj : ∀ i j, i ≠ j → (∃ x, S[i]? = some x ∧ x ≠ .dead) → (∃ x, S[j]? = some x ∧ x ≠ .dead) → r.ψ i ≠ r.ψ j
end Go.DM
