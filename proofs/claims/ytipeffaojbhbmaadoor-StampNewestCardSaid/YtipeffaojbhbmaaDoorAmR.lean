/- An abstract machine over Go's operations: how data read in an abstract memory. -/
import Derived.Test.YtipeffaojbhbmaaDoorAmV
import Derived.Laws.Strings
set_option linter.unusedSimpArgs false
set_option linter.unusedVariables false
namespace Go.AM
open Go

/-- All that could be read can be read, and reads as it did. -/
def Sub (H H' : Heap) : Prop := ∀ h b, hget H h = some b → ∃ b', hget H' h = some b' ∧ b'.cells = b.cells ∧ b'.sz = b.sz
theorem Sub.refl (H : Heap) : Sub H H := fun _ b h => ⟨b, h, rfl, rfl⟩
theorem Sub.trans {H H1 H2 : Heap} (a : Sub H H1) (b : Sub H1 H2) : Sub H H2 := fun h c hc => by
  obtain ⟨c1, k1, e1, z1⟩ := a h c hc
  obtain ⟨c2, k2, e2, z2⟩ := b h c1 k1
  exact ⟨c2, k2, e2.trans e1, z2.trans z1⟩
/-- A later memory: what was there is there, as it was. -/
structure Ext (H H' : Heap) : Prop where
  same : ∀ h b, hget H h = some b → hget H' h = some b
  len : H.length ≤ H'.length
theorem Ext.refl (H : Heap) : Ext H H := ⟨fun _ _ h => h, Nat.le_refl _⟩
theorem Ext.trans {H H1 H2 : Heap} (a : Ext H H1) (b : Ext H1 H2) : Ext H H2 := ⟨fun h c k => b.same h c (a.same h c k), Nat.le_trans a.len b.len⟩
theorem Ext.sub {H H' : Heap} (a : Ext H H') : Sub H H' := fun h b k => ⟨b, a.same h b k, rfl, rfl⟩
theorem Ext.newB (H : Heap) (b : Blk) : Ext H (newB H b) := ⟨fun h c k => by rw [AM.newB, hget_new_old (hget_lt k)]; exact k, by simp [AM.newB]⟩
theorem Ext.new (H : Heap) (cells : List Value) (sz : Nat) : Ext H (newA H cells sz) := .newB H _
theorem Ext.app (H E : Heap) : Ext H (H ++ E) := ⟨fun h c k => by
  have := hget_lt k
  simpa [hget, List.getElem?_append_left this] using k, by simp⟩
theorem Sub.new (H : Heap) (cells : List Value) (sz : Nat) : Sub H (newA H cells sz) := (Ext.new H cells sz).sub
theorem length_newA {H : Heap} {cells : List Value} {sz : Nat} : (newA H cells sz).length = H.length + 1 := by simp [newA, newB]
theorem hget_newA {H : Heap} {cells : List Value} {sz : Nat} : hget (newA H cells sz) H.length = some ⟨cells, sz, true, 0, []⟩ := hget_new_at
theorem hget_newA_lt {H : Heap} {cells : List Value} {sz h : Nat} (hh : h < H.length) : hget (newA H cells sz) h = hget H h := hget_new_old hh
theorem newA_app {H : Heap} {cells : List Value} {sz : Nat} : newA H cells sz = H ++ [some ⟨cells, sz, true, 0, []⟩] := rfl

theorem Ext.length_lt {H H' : Heap} {h : Nat} {b : Blk} (e : Ext H H') (k : hget H h = some b) : h < H'.length := Nat.lt_of_lt_of_le (hget_lt k) e.len

def I64 (n : Int) : Prop := -9223372036854775808 ≤ n ∧ n ≤ 9223372036854775807
theorem wrap_i64 {n : Int} (h : I64 n) : IntKind.i64.wrap n = n := by
  unfold I64 at h
  simp only [IntKind.wrap, IntKind.bits, IntKind.signed]
  simp
  omega
theorem wrap_i64' {n : Int} (h1 : -9223372036854775808 ≤ n) (h2 : n ≤ 9223372036854775807) : IntKind.i64.wrap n = n := wrap_i64 ⟨h1, h2⟩
theorem i64_wrap (n : Int) : I64 (IntKind.i64.wrap n) := by
  unfold I64
  simp only [IntKind.wrap, IntKind.bits, IntKind.signed]
  simp
  omega

/-- How a kind of data lies in cells. -/
structure Knd (α : Type) where
  sz : Nat
  R : Heap → α → List Value → Prop
  len : ∀ {H x cs}, R H x cs → cs.length = sz
  ext : ∀ {H H' x cs}, R H x cs → Sub H H' → R H' x cs
  one : ∀ {H x cs}, R H x cs → cs.all Value.oneCell' = true

section
variable {α β : Type}

def Cells (a : Knd α) (H : Heap) : List α → List Value → Prop
  | [], _ => True
  | x :: xs, cs => ∃ c rest, cs = c ++ rest ∧ a.R H x c ∧ Cells a H xs rest

theorem Cells.ext {a : Knd α} {H H' : Heap} (hs : Sub H H') : ∀ {xs : List α} {cs : List Value}, Cells a H xs cs → Cells a H' xs cs
  | [], _, _ => trivial
  | _ :: _, _, ⟨c, rest, e, h1, h2⟩ => ⟨c, rest, e, a.ext h1 hs, Cells.ext hs h2⟩

theorem Cells.length {a : Knd α} {H : Heap} : ∀ {xs : List α} {cs : List Value}, Cells a H xs cs → xs.length * a.sz ≤ cs.length
  | [], _, _ => by simp
  | _ :: xs, cs, ⟨c, rest, e, h1, h2⟩ => by
    have := Cells.length h2
    have := a.len h1
    subst e
    simp [Nat.add_mul]
    omega

theorem Cells.get {a : Knd α} {H : Heap} : ∀ {xs : List α} {cs : List Value} (i : Nat) {x : α}, Cells a H xs cs → xs[i]? = some x → a.R H x ((cs.drop (i * a.sz)).take a.sz)
  | [], _, i, x, _, h => by simp at h
  | y :: xs, cs, 0, x, ⟨c, rest, e, h1, h2⟩, h => by
    simp at h
    subst h e
    have := a.len h1
    simp [← this]
    exact h1
  | y :: xs, cs, i + 1, x, ⟨c, rest, e, h1, h2⟩, h => by
    subst e
    have hl := a.len h1
    have := Cells.get i h2 (by simpa using h)
    rw [Nat.add_mul, Nat.one_mul, Nat.add_comm, ← hl, ← List.drop_drop, List.drop_left, hl]
    exact this

theorem Cells.append {a : Knd α} {H : Heap} : ∀ {xs ys : List α} {cs ds : List Value}, Cells a H xs cs → cs.length = xs.length * a.sz → Cells a H ys ds → Cells a H (xs ++ ys) (cs ++ ds)
  | [], ys, cs, ds, _, hl, h => by
    have : cs = [] := List.eq_nil_of_length_eq_zero (by simpa using hl)
    subst this
    exact h
  | x :: xs, ys, cs, ds, ⟨c, rest, e, h1, h2⟩, hl, h => by
    subst e
    refine ⟨c, rest ++ ds, by simp, h1, Cells.append h2 ?_ h⟩
    have := a.len h1
    simp [Nat.add_mul] at hl
    omega

theorem Cells.take {a : Knd α} {H : Heap} : ∀ {xs : List α} {cs : List Value}, Cells a H xs cs → Cells a H xs (cs.take (xs.length * a.sz))
  | [], _, _ => trivial
  | x :: xs, cs, ⟨c, rest, e, h1, h2⟩ => by
    subst e
    have hl := a.len h1
    refine ⟨c, rest.take (xs.length * a.sz), ?_, h1, Cells.take h2⟩
    rw [List.take_append, List.take_of_length_le (by simp [Nat.add_mul]; omega)]
    congr 2
    simp [Nat.add_mul]; omega

theorem Cells.drop {a : Knd α} {H : Heap} : ∀ (n : Nat) {xs : List α} {cs : List Value}, Cells a H xs cs → n ≤ xs.length → Cells a H (xs.drop n) (cs.drop (n * a.sz))
  | 0, xs, cs, h, _ => by simpa using h
  | n + 1, [], cs, h, hn => by simp at hn
  | n + 1, x :: xs, cs, ⟨c, rest, e, h1, h2⟩, hn => by
    subst e
    have hl := a.len h1
    have e : (n + 1) * a.sz = c.length + n * a.sz := by rw [hl, Nat.add_mul]; omega
    show Cells a H (xs.drop n) _
    have e2 : (c ++ rest).drop (c.length + n * a.sz) = rest.drop (n * a.sz) := by rw [← List.drop_drop, List.drop_left]
    rw [e, e2]
    exact Cells.drop n h2 (by simpa using hn)

theorem Cells.fst {a : Knd α} {H : Heap} : ∀ (n : Nat) {xs : List α} {cs : List Value}, Cells a H xs cs → Cells a H (xs.take n) cs
  | 0, _, _, _ => trivial
  | n + 1, [], _, _ => trivial
  | n + 1, x :: xs, cs, ⟨c, rest, e, h1, h2⟩ => ⟨c, rest, e, h1, Cells.fst n h2⟩

/-- A slice that reads as a list. -/
def RSl (a : Knd α) (H : Heap) (v : Value) (l : List α) : Prop :=
  (v = .slice none 0 0 ∧ l = []) ∨ ∃ h o m b, v = .slice (some ⟨h, o, none⟩) l.length m ∧ l.length ≤ m ∧ hget H h = some b ∧ b.sz = a.sz ∧ o + l.length * a.sz ≤ b.cells.length ∧ Cells a H l (b.cells.drop o)

theorem RSl.ext {a : Knd α} {H H' : Heap} {v : Value} {l : List α} (h : RSl a H v l) (hs : Sub H H') : RSl a H' v l := by
  rcases h with h | ⟨h, o, m, b, e, hm, hg, hz, hc⟩
  · exact .inl h
  · obtain ⟨b', hg', ec, ez⟩ := hs _ _ hg
    exact .inr ⟨h, o, m, b', e, hm, hg', ez.trans hz, by rw [ec]; exact hc.1, by rw [ec]; exact hc.2.ext hs⟩

def Knd.int (k : IntKind) (ok : Int → Prop) : Knd Int := ⟨1, fun _ x cs => cs = [.int k x] ∧ ok x, fun h => by rw [h.1]; rfl, fun h _ => h, fun h => by rw [h.1]; rfl⟩
def Knd.i64 : Knd Int := .int .i64 I64
def Knd.str : Knd ByteArray := ⟨1, fun _ x cs => cs = [.string x], fun h => by rw [h]; rfl, fun h _ => h, fun h => by rw [h]; rfl⟩
def Knd.bool : Knd Bool := ⟨1, fun _ x cs => cs = [.bool x], fun h => by rw [h]; rfl, fun h _ => h, fun h => by rw [h]; rfl⟩
def Knd.slice (a : Knd α) : Knd (List α) := ⟨1, fun H l cs => ∃ v, cs = [v] ∧ RSl a H v l, fun ⟨v, e, _⟩ => by rw [e]; rfl, fun ⟨v, e, h⟩ hs => ⟨v, e, h.ext hs⟩, fun ⟨v, e, h⟩ => by rw [e]; rcases h with ⟨rfl, _⟩ | ⟨_, _, _, _, rfl, _⟩ <;> rfl⟩

/-- A slice that may be appended to; its block is no older than n. -/
def Own (n : Nat) (H : Heap) (v : Value) : Prop :=
  v = .slice none 0 0 ∨ ∃ h o l b, v = .slice (some ⟨h, o, none⟩) l l ∧ hget H h = some b ∧ b.rw = true ∧ n ≤ h ∧ o + l * b.sz = b.cells.length

theorem Own.ext {n : Nat} {H H' : Heap} {v : Value} (h : Own n H v) (hs : Ext H H') : Own n H' v := by
  rcases h with h | ⟨h, o, l, b, e, hg, r⟩
  · exact .inl h
  · exact .inr ⟨h, o, l, b, e, hs.same _ _ hg, r⟩

theorem readA_of {H : Heap} {h o n : Nat} {b : Blk} (hg : hget H h = some b) (hl : o + n ≤ b.cells.length) : readA H ⟨h, o, none⟩ n = some ((b.cells.drop o).take n) := by
  simp [readA, hg, hl]

theorem RSl.len {a : Knd α} {H : Heap} {v : Value} {l : List α} (h : RSl a H v l) : lenA v = some l.length := by
  rcases h with ⟨rfl, rfl⟩ | ⟨h, o, m, b, rfl, _⟩ <;> rfl

theorem RSl.first {a : Knd α} {H : Heap} {v : Value} {l : List α} (h : RSl a H v l) : ∃ cs, firstA H a.sz l.length v = some cs ∧ cs.length = l.length * a.sz ∧ Cells a H l cs := by
  rcases h with ⟨rfl, rfl⟩ | ⟨h, o, m, b, rfl, hm, hg, hz, hc⟩
  · exact ⟨[], rfl, by simp, trivial⟩
  · obtain ⟨hl, hc⟩ := hc
    refine ⟨(b.cells.drop o).take (l.length * a.sz), ?_, by simp; omega, hc.take⟩
    simp only [firstA]
    split
    · rename_i h0; rw [h0]; rfl
    · exact readA_of hg hl

/-- Cells of kinds laid one behind the other. -/
theorem Cells.single {a : Knd α} {H : Heap} {x : α} {c : List Value} (h : a.R H x c) : Cells a H [x] c := ⟨c, [], by simp, h, trivial⟩

theorem Cells.one {a : Knd α} {H : Heap} : ∀ {xs : List α} {cs : List Value}, Cells a H xs cs → cs.length = xs.length * a.sz → cs.all Value.oneCell' = true
  | [], cs, _, hl => by
    have : cs = [] := List.eq_nil_of_length_eq_zero (by simpa using hl)
    subst this; rfl
  | x :: xs, cs, ⟨c, rest, e, h1, h2⟩, hl => by
    subst e
    have hc := a.len h1
    have := Cells.one h2 (by simp [Nat.add_mul] at hl; omega)
    rw [List.all_append, a.one h1, this]; rfl

/-- The types of an append. -/
structure AppT (P : Program) (t0 t1 : TypeId) (sz bytes : Nat) : Prop where
  ok : ∃ e info d z, P.underlying t0 = some (.slice e) ∧ P.underlying t1 = some d ∧ ((d matches .slice _) || (d matches .string)) = true ∧ P.info? e = some info ∧ info.zero = some z ∧ z.cells.size = sz ∧ info.size = sz ∧ info.bytes = bytes
  pos : 0 < bytes

theorem AppT.eq {P : Program} {base : Nat} {t0 t1 : TypeId} {sz bytes : Nat} (hT : AppT P t0 t1 sz bytes) {s x : Value} {H : Heap} {n : Nat} {new : List Value} (hn : lenA x = some n) (hf : firstA H sz n x = some new) (hl : new.length = n * sz)
    (hc : new.all Value.oneCell' = true) {l m : Nat} :
    (s = .slice none 0 0 → n = 0 → appendA P base #[t0, t1] s x H = some (.slice none 0 0, H)) ∧
    (∀ {a}, s = .slice a l m → n = 0 → l ≤ m → appendA P base #[t0, t1] s x H = some (.slice a l m, H)) ∧
    ((l + n) * bytes ≤ 2 ^ 47 → l + n < 2 ^ 62 →
    (∀ {a : Addr} {b : Blk}, s = .slice (some a) l m → m < l + n → a.spot = none → hget H a.block = some b → b.rw = true → base ≤ a.block → b.sz = sz → a.off + l * sz = b.cells.length →
      appendA P base #[t0, t1] s x H = some (.slice (some (atNew H)) (l + n) (l + n), newB (hset H a.block (some { b with rw := false })) ⟨b.cells.drop a.off ++ new, sz, true, l * sz, a.block :: b.par⟩)) ∧
    (s = .slice none 0 0 → l = 0 → 0 < n → appendA P base #[t0, t1] s x H = some (.slice (some (atNew H)) n n, newA H new sz))) := by
  obtain ⟨⟨e, info, d, z, hu, h1, hd, hi, hz, hzs, hs1, hs2⟩, hp⟩ := hT
  subst hs1 hs2
  have hsz : sizeA P e = some info.size := by simp [sizeA, hi]
  have hd' : ((P.underlying t1).map fun | .slice _ => true | .string => true | _ => false) = some true := by
    rw [h1]; cases d <;> simp at hd ⊢
  have hk : ¬ info.bytes = 0 := by omega
  have hcc : (new.all Value.oneCell' = false) = False := by rw [hc]; simp
  refine ⟨?_, ?_, fun hb1 hb2 => ⟨?_, ?_⟩⟩
  · intro hs h0
    subst hs h0
    simp only [appendA, Option.bind_eq_bind]
    have hnil : new = [] := List.eq_nil_of_length_eq_zero (by rw [hl]; exact Nat.zero_mul _)
    simp [hu, hsz, hi, hz, hzs, hn, hf, hl, h1, hnil]
    cases d <;> simp at hd ⊢
  · intro a hs h0 hlm
    subst hs h0
    simp only [appendA, Option.bind_eq_bind]
    have hnil : new = [] := List.eq_nil_of_length_eq_zero (by rw [hl]; exact Nat.zero_mul _)
    simp [hu, hsz, hi, hz, hzs, hn, hf, hl, h1, hlm, hnil]
    cases d <;> simp at hd ⊢
  · intro a b hs hm hsp hg hrw hba hbz htail
    subst hs
    have hle : ¬ l + n ≤ m := by omega
    simp only [appendA, Option.bind_eq_bind]
    simp [hu, hsz, hi, hz, hzs, hn, hf, hl, hle, hb1, hb2, hp, hk, hc, hcc, hsp, hg, hrw, hba, hbz, htail, h1, -List.all_eq_false, -List.all_eq_true]
    cases d <;> simp at hd ⊢
  · intro hs hl0 hn0
    subst hs hl0
    have hle : ¬ n ≤ 0 := by omega
    have hne : ¬ n = 0 := by omega
    simp only [Nat.zero_add] at hb1 hb2
    simp only [appendA, Option.bind_eq_bind]
    simp [hu, hsz, hi, hz, hzs, hn, hf, hl, hle, hne, hb1, hb2, hp, hk, hc, hcc, h1, -List.all_eq_false, -List.all_eq_true]
    cases d <;> simp at hd ⊢

/-- A slice that reads as a list and may be appended to. -/
def Acc (a : Knd α) (n : Nat) (H : Heap) (v : Value) (l : List α) : Prop :=
  (v = .slice none 0 0 ∧ l = []) ∨ ∃ h o b, v = .slice (some ⟨h, o, none⟩) l.length l.length ∧ hget H h = some b ∧ b.rw = true ∧ b.sz = a.sz ∧ n ≤ h ∧ o + l.length * a.sz = b.cells.length ∧ Cells a H l (b.cells.drop o)

theorem Acc.rsl {a : Knd α} {n : Nat} {H : Heap} {v : Value} {l : List α} (h : Acc a n H v l) : RSl a H v l := by
  rcases h with h | ⟨h, o, b, e, hg, hr, hz, hn, ht, hc⟩
  · exact .inl h
  · exact .inr ⟨h, o, _, b, e, Nat.le_refl _, hg, hz, by omega, hc⟩
theorem Acc.ext {a : Knd α} {n : Nat} {H H' : Heap} {v : Value} {l : List α} (h : Acc a n H v l) (hs : Ext H H') : Acc a n H' v l := by
  rcases h with h | ⟨h, o, b, e, hg, hr, hz, hn, ht, hc⟩
  · exact .inl h
  · exact .inr ⟨h, o, b, e, hs.same _ _ hg, hr, hz, hn, ht, hc.ext hs.sub⟩
theorem Acc.le {a : Knd α} {n n' : Nat} {H : Heap} {v : Value} {l : List α} (h : Acc a n H v l) (hn : n' ≤ n) : Acc a n' H v l := by
  rcases h with h | ⟨h, o, b, e, hg, hr, hz, hh, ht, hc⟩
  · exact .inl h
  · exact .inr ⟨h, o, b, e, hg, hr, hz, Nat.le_trans hn hh, ht, hc⟩
theorem Acc.nil {a : Knd α} {n : Nat} {H : Heap} : Acc a n H (.slice none 0 0) [] := .inl ⟨rfl, rfl⟩
theorem Acc.new {a : Knd α} {n : Nat} {H : Heap} {l : List α} {cs : List Value} (hc : Cells a H l cs) (hl : cs.length = l.length * a.sz) (hn : n ≤ H.length) : Acc a n (newA H cs a.sz) (.slice (some (atNew H)) l.length l.length) l :=
  .inr ⟨H.length, 0, _, rfl, hget_newA, rfl, rfl, hn, by simpa using hl.symm, by simpa using hc.ext (Sub.new H cs a.sz)⟩

theorem sub_ro {H : Heap} {h : Nat} {b b1 : Blk} (hg : hget H h = some b) (he : b1.cells = b.cells) (hz : b1.sz = b.sz) (nb : Blk) : Sub H (newB (hset H h (some b1)) nb) := by
  intro i c hi
  have hlt := hget_lt hi
  rw [newB, hget_new_old (by rw [length_hset]; exact hlt)]
  by_cases hih : i = h
  · subst hih
    rw [hg] at hi
    cases hi
    exact ⟨b1, hget_set_eq hlt, he, hz⟩
  · rw [hget_set_ne (Ne.symm hih)]
    exact ⟨c, hi, rfl, rfl⟩

/-- What an append to such a slice comes to. -/
theorem Acc.append {P : Program} {base : Nat} {t0 t1 : TypeId} {a : Knd α} {bytes : Nat} (hT : AppT P t0 t1 a.sz bytes) {n : Nat} {H : Heap} {v x : Value} {l ys : List α} {new : List Value}
    (h : Acc a n H v l) (hb : base ≤ n) (hlen : n ≤ H.length) (hn : lenA x = some ys.length) (hf : firstA H a.sz ys.length x = some new) (hl : new.length = ys.length * a.sz) (hc : Cells a H ys new) (hbig : (l.length + ys.length) * bytes ≤ 2 ^ 47) :
    ∃ v' H', appendA P base #[t0, t1] v x H = some (v', H') ∧ Acc a n H' v' (l ++ ys) ∧ Sub H H' ∧ H.length ≤ H'.length ∧ ∀ H0 : Heap, H0.length ≤ n → Ext H0 H → Ext H0 H' := by
  have hpos := hT.pos
  have hlt : l.length + ys.length < 2 ^ 62 := by
    have : l.length + ys.length ≤ (l.length + ys.length) * bytes := Nat.le_mul_of_pos_right _ hpos
    omega
  have E := hT.eq (base := base) (s := v) hn hf hl (hc.one hl) (l := l.length) (m := l.length)
  obtain ⟨E1, E2, E3⟩ := E
  obtain ⟨E3, E4⟩ := E3 hbig hlt
  rcases h with ⟨rfl, rfl⟩ | ⟨h, o, b, rfl, hg, hr, hz, hh, ht, hcl⟩
  · by_cases h0 : ys.length = 0
    · have : ys = [] := List.eq_nil_of_length_eq_zero h0
      subst this
      exact ⟨_, _, E1 rfl rfl, .nil, .refl _, Nat.le_refl _, fun _ _ e => e⟩
    · exact ⟨_, _, E4 rfl rfl (by omega), .new hc hl hlen, .new _ _ _, by simp [length_newA], fun _ _ e => e.trans (.new _ _ _)⟩
  · by_cases h0 : ys.length = 0
    · have : ys = [] := List.eq_nil_of_length_eq_zero h0
      subst this
      exact ⟨_, _, E2 rfl rfl (Nat.le_refl _), .inr ⟨h, o, b, by simp, hg, hr, hz, hh, by simpa using ht, by simpa using hcl⟩, .refl _, Nat.le_refl _, fun _ _ e => e⟩
    · have hsub : ∀ nb, Sub H (newB (hset H h (some { b with rw := false })) nb) := fun nb => sub_ro (b1 := { b with rw := false }) hg rfl rfl nb
      refine ⟨_, _, E3 rfl (by omega) rfl hg hr (by simp; omega) hz ht, ?_, hsub _, by simp [newB, length_hset], ?_⟩
      · refine .inr ⟨H.length, 0, ⟨b.cells.drop o ++ new, a.sz, true, l.length * a.sz, h :: b.par⟩, by simp [atNew], ?_, rfl, rfl, hlen, ?_, ?_⟩
        · have := hget_new_at (H := hset H h (some { b with rw := false })) (b := some ⟨b.cells.drop o ++ new, a.sz, true, l.length * a.sz, h :: b.par⟩)
          rw [length_hset] at this
          exact this
        · simp [Nat.add_mul, hl]; omega
        · simp only [List.drop_zero]
          refine Cells.append ?_ ?_ ?_
          · exact hcl.ext (hsub _)
          · simp; omega
          · exact hc.ext (hsub _)
      · intro H0 h0n e
        refine ⟨fun i c hi => ?_, by have := e.len; simp [newB, length_hset]; omega⟩
        have hi' := hget_lt hi
        rw [newB, hget_new_old (by rw [length_hset]; exact e.length_lt hi), hget_set_ne (show h ≠ i by omega)]
        exact e.same i c hi

theorem lit_first {H : Heap} {cs : List Value} {sz n : Nat} (hl : cs.length = n * sz) : firstA (newA H cs sz) sz n (.slice (some (atNew H)) n n) = some cs := by
  have : readA (newA H cs sz) (atNew H) (n * sz) = some ((cs.drop 0).take (n * sz)) := readA_of hget_newA (by simp [hl])
  show (if n * sz = 0 then some [] else readA _ _ _) = _
  split
  · rename_i h0; rw [List.eq_nil_of_length_eq_zero (hl.trans h0)]
  · rw [this, ← hl]
    simp

/-- A call that wants no memory and tells of none. -/
theorem CallA.pure {P : Program} {orc : Oracle} {base : Nat} {f : FuncId} {args : List Value} {H : Heap} {R : Value → Prop} (base' : Nat) (ha : args.all closedV = true)
    (h : CallA P orc base' f args [] fun v _ => closedV v = true ∧ R v) : CallA P orc base f args H fun v H' => H' = H ∧ R v := by
  obtain ⟨v, H1, hb, hv, hr⟩ := h
  exact ⟨v, H, .pure hb ha hv, rfl, hr⟩
/-- A call of which nothing new is kept. -/
theorem CallA.drop {P : Program} {orc : Oracle} {base : Nat} {f : FuncId} {args : List Value} {H : Heap} {R : Value → Prop}
    (h : CallA P orc base f args H fun v H1 => Ext H H1 ∧ VLow H.length v ∧ R v) : CallA P orc base f args H fun v H' => H' = H ∧ R v := by
  obtain ⟨v, H1, hb, hk, hv, hr⟩ := h
  exact ⟨v, H, .drop hb hk.same hv, rfl, hr⟩
theorem VLow.bool {n : Nat} {b : Bool} : VLow n (.bool b) := .scalar rfl
theorem VLow.int {n : Nat} {k : IntKind} {b : Int} : VLow n (.int k b) := .scalar rfl
theorem VLow.str {n : Nat} {b : ByteArray} : VLow n (.string b) := .scalar rfl

theorem bytes_ext {a b : ByteArray} (h : a.data.toList = b.data.toList) : a = b := by
  cases a; cases b
  simp only [ByteArray.mk.injEq]
  exact Array.toList_inj.1 h
theorem str_eq {x y : ByteArray} : (x.toList == y.toList) = decide (x = y) := by
  rw [Go.ByteArray.toList_eq, Go.ByteArray.toList_eq]
  by_cases h : x = y
  · subst h; simp
  · simp only [h, decide_false, beq_eq_false_iff_ne, ne_eq]
    exact fun e => h (bytes_ext e)

def valOf : Option (Out × Heap) → Option Value
  | some (.val v, _) => some v
  | _ => none
/-- A call without memory, that is just run. -/
theorem CallA.runs {P : Program} {orc : Oracle} {base : Nat} {f : FuncId} {args : List Value} {H : Heap} {v : Value} (hm : P.follows .mixedOrders = true) (n : Nat) (h : valOf (AM.run P 0 n (.call f args) []) = some v)
    (ha : args.all closedV = true) (hc : closedV v = true) : CallA P orc base f args H fun v' H' => H' = H ∧ v' = v := by
  refine CallA.pure 0 ha (CallA.run hm n ?_)
  cases hr : AM.run P 0 n (.call f args) [] with
  | none => rw [hr] at h; cases h
  | some r =>
    obtain ⟨o, H1⟩ := r
    rw [hr] at h
    cases o with
    | val u => cases h; exact ⟨hc, rfl⟩
    | _ => cases h
end

end Go.AM
