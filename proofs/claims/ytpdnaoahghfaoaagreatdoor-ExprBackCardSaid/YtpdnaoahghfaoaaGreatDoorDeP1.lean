/- An expression out of words: the parser as a function; as many steps as there are words are enough. -/
import Derived.Test.YtpdnaoahghfaoaaGreatDoorDeC8
import Derived.Test.YtpdnaoahghfaoaaGreatDoorDeN1
import Derived.Test.YtpdnaoahghfaoaaGreatDoorDeL5
import Derived.Test.YtpdnaoahghfaoaaGreatDoorDeL2
set_option linter.unusedSimpArgs false
set_option linter.unusedVariables false
namespace Go.Proofs.DeT
open Go Go.DM
set_option maxRecDepth 10000

def in64 (x : Int) : Prop := -9223372036854775808 ≤ x ∧ x ≤ 9223372036854775807
structure St where
  i : Nat
  n : Nat
  e : Int
def nilN : Nd := .mk ⟨#[]⟩ ⟨#[]⟩ 0 []
def isT (l : List Tok) (i : Nat) (sg : List ByteArray) : Bool := match l[i]? with | some t => decide (t.k = 3) && sg.any (fun s => decide (t.t = s)) | none => false
def opAt (l : List Tok) (i : Nat) : ByteArray := match l[i]? with | some t => t.t | none => ⟨#[]⟩
def loopF (l : List Tok) (part : St → Option (Nd × St)) (sg : List ByteArray) : Nat → Nd → St → Option (Nd × St)
  | 0, _, _ => none
  | g + 1, out, st =>
    if st.e = 0 ∧ isT l st.i sg = true then
      if 32 < st.n + 1 then some (nilN, ⟨st.i, st.n + 1, 4⟩)
      else (part ⟨st.i + 1, st.n + 1, 0⟩).bind fun r => loopF l part sg g (.mk (opAt l st.i) ⟨#[]⟩ 0 [out, r.1]) r.2
    else some (out, st)
def foldF (l : List Tok) (part : St → Option (Nd × St)) (sg : List ByteArray) (g : Nat) (st : St) : Option (Nd × St) := (part st).bind fun r => loopF l part sg g r.1 r.2
def mulS : List ByteArray := [(⟨#[42]⟩ : ByteArray), (⟨#[47]⟩ : ByteArray), (⟨#[37]⟩ : ByteArray)]
def addS : List ByteArray := [(⟨#[43]⟩ : ByteArray), (⟨#[45]⟩ : ByteArray)]
def endS : List ByteArray := [(⟨#[41]⟩ : ByteArray)]
def closeF (l : List Tok) (r : Nd × St) : Nd × St := if r.2.e ≠ 0 then (nilN, r.2) else if isT l r.2.i endS = true then (r.1, ⟨r.2.i + 1, r.2.n, 0⟩) else (nilN, ⟨r.2.i, r.2.n, 2⟩)
def leafN (t : Tok) : Nd := if t.k = 2 then .mk (⟨#[110, 117, 109]⟩ : ByteArray) ⟨#[]⟩ t.n [] else .mk (⟨#[110, 97, 109, 101]⟩ : ByteArray) t.t 0 []
def facF (l : List Tok) : Nat → St → Option (Nd × St)
  | 0 => fun _ => none
  | f + 1 => fun st =>
    if st.e ≠ 0 then some (nilN, st) else
    match l[st.i]? with
    | none => some (nilN, ⟨st.i, st.n, 2⟩)
    | some t =>
      if t.k = 3 then
        if t.t = (⟨#[40]⟩ : ByteArray) then (foldF l (foldF l (facF l f) mulS f) addS f ⟨st.i + 1, st.n, 0⟩).map (closeF l)
        else if t.t = (⟨#[45]⟩ : ByteArray) then
          if 32 < st.n + 1 then some (nilN, ⟨st.i, st.n + 1, 4⟩) else (facF l f ⟨st.i + 1, st.n + 1, 0⟩).map fun r => (.mk (⟨#[110, 101, 103]⟩ : ByteArray) ⟨#[]⟩ 0 [r.1], r.2)
        else some (nilN, ⟨st.i, st.n, 2⟩)
      else if 32 < st.n + 1 then some (nilN, ⟨st.i, st.n + 1, 4⟩)
      else some (leafN t, ⟨st.i + 1, st.n + 1, 0⟩)
def prdF (l : List Tok) (f : Nat) : St → Option (Nd × St) := foldF l (facF l f) mulS f
def sumF (l : List Tok) (f : Nat) : St → Option (Nd × St) := foldF l (prdF l f) addS f
theorem facF_succ {l : List Tok} {f : Nat} {st : St} : facF l (f + 1) st =
    if st.e ≠ 0 then some (nilN, st) else
    match l[st.i]? with
    | none => some (nilN, ⟨st.i, st.n, 2⟩)
    | some t =>
      if t.k = 3 then
        if t.t = (⟨#[40]⟩ : ByteArray) then (sumF l f ⟨st.i + 1, st.n, 0⟩).map (closeF l)
        else if t.t = (⟨#[45]⟩ : ByteArray) then
          if 32 < st.n + 1 then some (nilN, ⟨st.i, st.n + 1, 4⟩) else (facF l f ⟨st.i + 1, st.n + 1, 0⟩).map fun r => (.mk (⟨#[110, 101, 103]⟩ : ByteArray) ⟨#[]⟩ 0 [r.1], r.2)
        else some (nilN, ⟨st.i, st.n, 2⟩)
      else if 32 < st.n + 1 then some (nilN, ⟨st.i, st.n + 1, 4⟩)
      else some (leafN t, ⟨st.i + 1, st.n + 1, 0⟩) := rfl

theorem nameOk_size {s : ByteArray} (h : nameOk s = true) : s.size ≤ 8 := by
  unfold nameOk at h
  simp only [Bool.and_eq_true, decide_eq_true_eq] at h
  exact h.1.1.2
/-- A word that may be in an expression: its name is one. -/
def WordOk (t : Tok) : Prop := (t.k = 1 ∨ t.k = 2 ∨ t.k = 3) ∧ (t.k = 1 → nameOk t.t = true) ∧ (t.k = 2 → in64 t.n ∧ 0 ≤ t.n)
/-- A tree as it may be: each node has as many as its sign wants, each name is one, no number is below nought. -/
inductive Whole : Nd → Prop
  | mk {op nm n ks} (h : arity op = ks.length) (hn : op = (⟨#[110, 97, 109, 101]⟩ : ByteArray) → nameOk nm = true) (hz : op = (⟨#[110, 117, 109]⟩ : ByteArray) → 0 ≤ n) (hi : in64 n) (hk : ∀ k ∈ ks, Whole k) (hs : nm.size ≤ 100) : Whole (.mk op nm n ks)
/-- What a part of the parser does: it goes on, and what it makes is whole. -/
structure GoodR (l : List Tok) (m : Nat) (st : St) (r : Nd × St) : Prop where
  lo : st.i ≤ r.2.i
  hi : r.2.i ≤ l.length
  on : r.2.e = 0 → st.e = 0 ∧ st.i < r.2.i
  nn : st.n ≤ r.2.n ∧ r.2.n ≤ 33
  ok : r.2.e = 0 → Whole r.1 ∧ cnt r.1 + st.n = r.2.n ∧ r.2.n ≤ 32
  er : r.2.e = 0 ∨ r.2.e = 2 ∨ r.2.e = 4
def GoodP (l : List Tok) (m : Nat) (part : St → Option (Nd × St)) : Prop :=
  ∀ st : St, st.i ≤ l.length → l.length - st.i < m → st.n ≤ 32 ∨ st.e ≠ 0 → st.n ≤ 33 → (st.e = 0 ∨ st.e = 2 ∨ st.e = 4) → ∃ r, part st = some r ∧ GoodR l m st r
theorem isT_lt {l : List Tok} {i : Nat} {sg : List ByteArray} (h : isT l i sg = true) : ∃ hi : i < l.length, l[i].k = 3 ∧ l[i].t ∈ sg ∧ opAt l i = l[i].t := by
  unfold isT at h
  cases hq : l[i]? with
  | none => rw [hq] at h; cases h
  | some t =>
    rw [hq] at h
    obtain ⟨hi, rfl⟩ := List.getElem?_eq_some_iff.1 hq
    simp only [Bool.and_eq_true, decide_eq_true_eq] at h
    obtain ⟨s, hs, e⟩ := List.any_eq_true.1 h.2
    exact ⟨hi, h.1, by rw [of_decide_eq_true e]; exact hs, by simp [opAt, hi]⟩

theorem nz4 {p : Prop} (e : (4 : Int) = 0) : p := absurd e (by decide)
theorem nz2 {p : Prop} (e : (2 : Int) = 0) : p := absurd e (by decide)
theorem whole_slim (n : Nd) (h : Whole n) : Slim 100 n := by
  induction n using Nd.ind with
  | h op nm n ks ih =>
    obtain ⟨har, _, _, _, hk, hs⟩ := h
    refine .mk hs ?_ fun k hkm => ih k hkm (hk k hkm)
    have : arity op ≤ 2 := by unfold arity; repeat' split <;> omega
    omega
theorem whole_fits (n : Nd) (h : Whole n) : Fits n := by
  induction n using Nd.ind with
  | h op nm n ks ih =>
    obtain ⟨har, _, _, _, hk, hs⟩ := h
    exact .mk har fun k hkm => ih k hkm (hk k hkm)
def SgOk (sg : List ByteArray) : Prop := ∀ s ∈ sg, arity s = 2 ∧ s ≠ (⟨#[110, 97, 109, 101]⟩ : ByteArray) ∧ s ≠ (⟨#[110, 117, 109]⟩ : ByteArray)
theorem mulS_ok : SgOk mulS := by
  intro s hs
  simp only [mulS, List.mem_cons, List.not_mem_nil, or_false] at hs
  rcases hs with rfl | rfl | rfl <;> exact ⟨by decide, by decide, by decide⟩
theorem addS_ok : SgOk addS := by
  intro s hs
  simp only [addS, List.mem_cons, List.not_mem_nil, or_false] at hs
  rcases hs with rfl | rfl <;> exact ⟨by decide, by decide, by decide⟩
theorem whole_two {op : ByteArray} {a b : Nd} (h : arity op = 2 ∧ op ≠ (⟨#[110, 97, 109, 101]⟩ : ByteArray) ∧ op ≠ (⟨#[110, 117, 109]⟩ : ByteArray)) (ha : Whole a) (hb : Whole b) : Whole (.mk op ⟨#[]⟩ 0 [a, b]) := by
  refine .mk h.1 (fun e => absurd e h.2.1) (fun e => absurd e h.2.2) ⟨by decide, by decide⟩ (fun k hk => ?_) (Nat.zero_le _)
  simp only [List.mem_cons, List.not_mem_nil, or_false] at hk
  rcases hk with rfl | rfl <;> assumption
theorem loop_good {l : List Tok} {m : Nat} {part : St → Option (Nd × St)} (hp : GoodP l m part) {sg : List ByteArray} (hsg : SgOk sg) {st0 : St} (h0 : l.length - st0.i < m) : ∀ (g : Nat) (out : Nd) (st : St), GoodR l m st0 (out, st) → l.length - st.i < g →
    ∃ r, loopF l part sg g out st = some r ∧ GoodR l m st0 r
  | 0, _, _, _, h => by omega
  | g + 1, out, st, hr, h => by
    unfold loopF
    by_cases hc : st.e = 0 ∧ isT l st.i sg = true
    · rw [if_pos hc]
      obtain ⟨hi, hk, hm, ho⟩ := isT_lt hc.2
      obtain ⟨hw, hn, hn2⟩ := hr.ok hc.1
      have hlo := hr.lo
      have hnn := hr.nn
      obtain ⟨he0, hlt⟩ := hr.on hc.1
      dsimp only at hlo hnn hw hn hn2 hlt
      by_cases hbig : 32 < st.n + 1
      · rw [if_pos hbig]
        exact ⟨_, rfl, ⟨hlo, Nat.le_of_lt hi, nz4, ⟨by dsimp only; omega, by dsimp only; omega⟩, nz4, .inr (.inr rfl)⟩⟩
      · rw [if_neg hbig]
        obtain ⟨r1, e1, g1⟩ := hp ⟨st.i + 1, st.n + 1, 0⟩ hi (by dsimp only; omega) (.inl (by dsimp only; omega)) (by dsimp only; omega) (.inl rfl)
        rw [e1, Option.bind_some]
        have hlo1 := g1.lo
        have hnn1 := g1.nn
        dsimp only at hlo1 hnn1
        refine loop_good hp hsg h0 g _ r1.2 ⟨by dsimp only; omega, g1.hi, fun e => ⟨he0, by dsimp only; omega⟩, ⟨by dsimp only; omega, hnn1.2⟩, fun e => ?_, g1.er⟩ (by omega)
        obtain ⟨w1, c1, c2⟩ := g1.ok e
        refine ⟨whole_two (by rw [ho]; exact hsg _ hm) hw w1, ?_, c2⟩
        rw [cnt_mk]
        simp only [cnts, List.map_cons, List.map_nil, List.sum_cons, List.sum_nil] at c1 ⊢
        omega
    · rw [if_neg hc]
      exact ⟨_, rfl, hr⟩
theorem fold_good {l : List Tok} {m : Nat} {part : St → Option (Nd × St)} (hp : GoodP l m part) {sg : List ByteArray} (hsg : SgOk sg) {g : Nat} (hg : m ≤ g) : GoodP l m (foldF l part sg g) := by
  intro st h1 h2 h3 h4 h5
  obtain ⟨r, e, hr⟩ := hp st h1 h2 h3 h4 h5
  unfold foldF
  rw [e, Option.bind_some]
  exact loop_good hp hsg h2 g r.1 r.2 hr (by have := hr.lo; omega)
theorem fac_good {l : List Tok} (hw : ∀ t ∈ l, WordOk t) : ∀ f, GoodP l f (facF l f)
  | 0 => by intro st h1 h2; omega
  | f + 1 => by
    intro st h1 h2 h3 h4 h5
    rw [facF_succ]
    by_cases he : st.e ≠ 0
    · rw [if_pos he]
      exact ⟨_, rfl, ⟨Nat.le_refl _, h1, fun e => absurd e he, ⟨Nat.le_refl _, h4⟩, fun e => absurd e he, h5⟩⟩
    rw [if_neg he]
    have he0 : st.e = 0 := Decidable.not_not.1 he
    have hn : st.n ≤ 32 := h3.resolve_right he
    cases hq : l[st.i]? with
    | none => exact ⟨_, rfl, ⟨Nat.le_refl _, h1, nz2, ⟨Nat.le_refl _, h4⟩, nz2, .inr (.inl rfl)⟩⟩
    | some t =>
      obtain ⟨hi, rfl⟩ := List.getElem?_eq_some_iff.1 hq
      have hwt := hw _ (List.getElem_mem hi)
      dsimp only
      by_cases hk : l[st.i].k = 3
      · rw [if_pos hk]
        by_cases ho : l[st.i].t = (⟨#[40]⟩ : ByteArray)
        · rw [if_pos ho]
          obtain ⟨r, e, hr⟩ := fold_good (fold_good (fac_good hw f) mulS_ok (Nat.le_refl f)) addS_ok (Nat.le_refl f) ⟨st.i + 1, st.n, 0⟩ hi (by dsimp only; omega) (.inl hn) h4 (.inl rfl)
          unfold sumF prdF
          rw [e, Option.map_some]
          refine ⟨_, rfl, ?_⟩
          have hlo := hr.lo
          have hnn := hr.nn
          dsimp only at hlo hnn
          unfold closeF
          by_cases hre : r.2.e ≠ 0
          · rw [if_pos hre]
            exact ⟨by dsimp only; omega, hr.hi, fun e => absurd e hre, hnn, fun e => absurd e hre, hr.er⟩
          · rw [if_neg hre]
            obtain ⟨w1, c1, c2⟩ := hr.ok (Decidable.not_not.1 hre)
            by_cases hx : isT l r.2.i endS = true
            · rw [if_pos hx]
              obtain ⟨hi2, _⟩ := isT_lt hx
              exact ⟨by dsimp only; omega, hi2, fun _ => ⟨he0, by dsimp only; omega⟩, hnn, fun _ => ⟨w1, c1, c2⟩, .inl rfl⟩
            · rw [if_neg hx]
              exact ⟨by dsimp only; omega, hr.hi, nz2, hnn, nz2, .inr (.inl rfl)⟩
        · rw [if_neg ho]
          by_cases hm : l[st.i].t = (⟨#[45]⟩ : ByteArray)
          · rw [if_pos hm]
            by_cases hbig : 32 < st.n + 1
            · rw [if_pos hbig]
              exact ⟨_, rfl, ⟨Nat.le_refl _, h1, nz4, ⟨by dsimp only; omega, by dsimp only; omega⟩, nz4, .inr (.inr rfl)⟩⟩
            · rw [if_neg hbig]
              obtain ⟨r, e, hr⟩ := fac_good hw f ⟨st.i + 1, st.n + 1, 0⟩ hi (by dsimp only; omega) (.inl (by dsimp only; omega)) (by dsimp only; omega) (.inl rfl)
              rw [e, Option.map_some]
              have hlo := hr.lo
              have hnn := hr.nn
              dsimp only at hlo hnn
              refine ⟨_, rfl, ⟨by dsimp only; omega, hr.hi, fun _ => ⟨he0, by dsimp only; omega⟩, ⟨by dsimp only; omega, hnn.2⟩, fun e => ?_, hr.er⟩⟩
              obtain ⟨w1, c1, c2⟩ := hr.ok e
              refine ⟨.mk rfl (fun e => absurd e (by decide)) (fun e => absurd e (by decide)) ⟨by decide, by decide⟩ (fun k hk => ?_) (Nat.zero_le _), ?_, c2⟩
              · rw [List.mem_singleton] at hk
                rw [hk]; exact w1
              · rw [cnt_mk]
                simp only [cnts, List.map_cons, List.map_nil, List.sum_cons, List.sum_nil] at c1 ⊢
                omega
          · rw [if_neg hm]
            exact ⟨_, rfl, ⟨Nat.le_refl _, h1, nz2, ⟨Nat.le_refl _, h4⟩, nz2, .inr (.inl rfl)⟩⟩
      · rw [if_neg hk]
        by_cases hbig : 32 < st.n + 1
        · rw [if_pos hbig]
          exact ⟨_, rfl, ⟨Nat.le_refl _, h1, nz4, ⟨by dsimp only; omega, by dsimp only; omega⟩, nz4, .inr (.inr rfl)⟩⟩
        · rw [if_neg hbig]
          refine ⟨_, rfl, ⟨by dsimp only; omega, hi, fun _ => ⟨he0, by dsimp only; omega⟩, ⟨by dsimp only; omega, by dsimp only; omega⟩, fun _ => ?_, .inl rfl⟩⟩
          unfold leafN
          by_cases h2' : l[st.i].k = 2
          · rw [if_pos h2']
            refine ⟨.mk rfl (fun e => absurd e (by decide)) (fun _ => (hwt.2.2 h2').2) (hwt.2.2 h2').1 (by simp) (Nat.zero_le _), ?_, by dsimp only; omega⟩
            rw [cnt_mk]
            simp only [cnts, List.map_nil, List.sum_nil]
            omega
          · rw [if_neg h2']
            have h1' : l[st.i].k = 1 := by rcases hwt.1 with h | h | h <;> first | exact h | exact absurd h h2' | exact absurd h hk
            refine ⟨.mk rfl (fun _ => hwt.2.1 h1') (fun e => absurd e (by decide)) ⟨by decide, by decide⟩ (by simp) (Nat.le_trans (nameOk_size (hwt.2.1 h1')) (by decide)), ?_, by dsimp only; omega⟩
            rw [cnt_mk]
            simp only [cnts, List.map_nil, List.sum_nil]
            omega
theorem sum_good {l : List Tok} (hw : ∀ t ∈ l, WordOk t) (f : Nat) : GoodP l f (sumF l f) := fold_good (fold_good (fac_good hw f) mulS_ok (Nat.le_refl f)) addS_ok (Nat.le_refl f)
end Go.Proofs.DeT
