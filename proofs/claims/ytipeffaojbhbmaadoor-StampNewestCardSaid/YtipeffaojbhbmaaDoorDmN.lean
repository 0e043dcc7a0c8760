/- A machine over Go's operations in which slices are values: calls of which nothing new is kept; loops that forget. -/
import Derived.Test.YtipeffaojbhbmaaDoorDmV
set_option linter.unusedSimpArgs false
set_option linter.unusedVariables false
namespace Go.DM
open Go Go.AM

section
variable {P : Program} {orc : DOracle} {fl sz : Nat} {k : List K} {ρ : DEnv} {S : Mem} {Q : AExit → DEnv → Mem → Prop}
theorem Go.trim {c : Code} {ρ' : DEnv} (n : Nat) (hm : fl ≤ n) (hn : n ≤ S.length) (hw : ∀ t, Wk n (ρ t) (ρ' t)) (hl : memLow n S) (h : Go P orc fl sz (.code c :: k) .normal ρ' (S.take n) Q) : Go P orc fl sz (.code c :: k) .normal ρ S Q := by
  obtain ⟨e, ρ1, H1, hb, h⟩ := h
  exact ⟨e, ρ1, H1, .trim hm hn hw hl hb, h⟩

theorem Wk.of_low {n : Nat} {d : D} (h : DLow n d) : Wk n d d := fun _ _ _ hr => h.lower hr
theorem Wk.bot {n : Nat} {d : D} : Wk n d .bot := fun _ v _ _ => .bot v
theorem DLow.mono {n n' : Nat} (hn : n ≤ n') {d : D} (h : DLow n d) : DLow n' d := by
  induction h with
  | bool b => exact .bool b
  | int k x => exact .int k x
  | str s => exact .str s
  | nilp => exact .nilp
  | ptr o off ho => exact .ptr o off (Nat.lt_of_lt_of_le ho hn)
  | eptr cells off _ ih => exact .eptr cells off ih
  | nils => exact .nils
  | sl0 => exact .sl0
  | slx => exact .slx
  | sl own sz len cells ho _ ih => exact .sl own sz len cells (fun id e => Nat.lt_of_lt_of_le (ho id e) hn) ih
  | fn f xs cs _ _ i1 i2 => exact .fn f xs cs i1 i2
  | nilf => exact .nilf
  | iface t d _ ih => exact .iface t d ih
  | nili => exact .nili
  | agg xs _ ih => exact .agg xs ih
  | tup xs _ ih => exact .tup xs ih
  | bot => exact .bot

theorem Wk.trans {n : Nat} {a b c : D} (h : Wk n a b) (k : Wk n b c) : Wk n a c := fun r v hn hr => k ⟨n, r.ψ, r.k, r.H⟩ v (Nat.le_refl _) (h r v hn hr)
/-- A slice loses its right to grow; its cells are known less. -/
theorem Wk.sl {n : Nat} {own : Option Nat} {sz len : Nat} {cells cells' : List D} (hl : cells.length = cells'.length) (h : ∀ i (h : i < cells.length) (h' : i < cells'.length), Wk n cells[i] cells'[i]) : Wk n (.sl own sz len cells) (.sl none sz len cells') := by
  intro r v hn hr
  cases hr with
  | sl _ _ _ _ vs h0 o m b hk hg hz hr hm hl' hs ho hc =>
    exact .sl (r := ⟨n, r.ψ, r.k, r.H⟩) none sz len cells' vs h0 o m b hk hg hz hr hm (by omega) (by omega) (fun id e => by cases e) fun i h1 h2 => h i (by omega) h1 r _ hn (hc i (by omega) h2)
  | slE _ _ he =>
    have : cells' = [] := List.eq_nil_of_length_eq_zero hl.symm
    subst this
    exact .slE _ _ he
theorem Wk.disown {n : Nat} {own : Option Nat} {sz len : Nat} {cells : List D} (h : ∀ i (h : i < cells.length), DLow n cells[i]) : Wk n (.sl own sz len cells) (.sl none sz len cells) :=
  .sl rfl fun i h1 _ => .of_low (h i h1)
theorem Wk.nilE {n sz : Nat} : Wk n .nils (.sl none sz 0 []) := fun r v _ h => by cases h; exact .slE _ _ (.inl rfl)
theorem Wk.sl0E {n sz : Nat} : Wk n .sl0 (.sl none sz 0 []) := fun r v _ h => by cases h with | sl0 _ h => exact .slE _ _ h
theorem Wk.nil0 {n : Nat} : Wk n .nils .sl0 := fun r v _ h => by cases h; exact .sl0 _ (.inl rfl)
theorem Wk.agg {n : Nat} {xs ys : List D} (hl : xs.length = ys.length) (h : ∀ i (h : i < xs.length) (h' : i < ys.length), Wk n xs[i] ys[i]) : Wk n (.agg xs) (.agg ys) := by
  intro r v hn hr
  cases hr with
  | agg _ zs h1 h2 => exact .agg (r := ⟨n, r.ψ, r.k, r.H⟩) ys zs (by omega) fun i a b => h i (by omega) a r _ hn (h2 i (by omega) b)
theorem Wk.tup {n : Nat} {xs ys : List D} (hl : xs.length = ys.length) (h : ∀ i (h : i < xs.length) (h' : i < ys.length), Wk n xs[i] ys[i]) : Wk n (.tup xs) (.tup ys) := by
  intro r v hn hr
  cases hr with
  | tup _ zs h1 h2 => exact .tup (r := ⟨n, r.ψ, r.k, r.H⟩) ys zs (by omega) fun i a b => h i (by omega) a r _ hn (h2 i (by omega) b)

theorem Wf.refl {d : D} : Wf d d := fun _ _ h => h
theorem Wf.trans {a b c : D} (h : Wf a b) (k : Wf b c) : Wf a c := fun r v hr => k r v (h r v hr)
theorem Wf.bot {d : D} : Wf d .bot := fun _ v _ => .bot v
theorem Wf.sl {own : Option Nat} {sz len : Nat} {cells cells' : List D} (hl : cells.length = cells'.length) (h : ∀ i (h : i < cells.length) (h' : i < cells'.length), Wf cells[i] cells'[i]) : Wf (.sl own sz len cells) (.sl none sz len cells') := by
  intro r v hr
  cases hr with
  | sl _ _ _ _ vs h0 o m b hk hg hz hr hm hl' hs ho hc =>
    exact .sl none sz len cells' vs h0 o m b hk hg hz hr hm (by omega) (by omega) (fun id e => by cases e) fun i h1 h2 => h i (by omega) h1 r _ (hc i (by omega) h2)
  | slE _ _ he =>
    have : cells' = [] := List.eq_nil_of_length_eq_zero hl.symm
    subst this
    exact .slE _ _ he
theorem Wf.disown {own : Option Nat} {sz len : Nat} {cells : List D} : Wf (.sl own sz len cells) (.sl none sz len cells) := .sl rfl fun _ _ _ => .refl
theorem Wf.nilE {sz : Nat} : Wf .nils (.sl none sz 0 []) := fun r v h => by cases h; exact .slE _ _ (.inl rfl)
theorem Wf.sl0E {sz : Nat} : Wf .sl0 (.sl none sz 0 []) := fun r v h => by cases h with | sl0 _ h => exact .slE _ _ h
theorem Wf.nil0 : Wf .nils .sl0 := fun r v h => by cases h; exact .sl0 _ (.inl rfl)
theorem Wf.agg {xs ys : List D} (hl : xs.length = ys.length) (h : ∀ i (h : i < xs.length) (h' : i < ys.length), Wf xs[i] ys[i]) : Wf (.agg xs) (.agg ys) := by
  intro r v hr
  cases hr with
  | agg _ zs h1 h2 => exact .agg ys zs (by omega) fun i a b => h i (by omega) a r _ (h2 i (by omega) b)
theorem Wf.tup {xs ys : List D} (hl : xs.length = ys.length) (h : ∀ i (h : i < xs.length) (h' : i < ys.length), Wf xs[i] ys[i]) : Wf (.tup xs) (.tup ys) := by
  intro r v hr
  cases hr with
  | tup _ zs h1 h2 => exact .tup ys zs (by omega) fun i a b => h i (by omega) a r _ (h2 i (by omega) b)

/-- Values one by one. -/
inductive WfL : List D → List D → Prop
  | nil : WfL [] []
  | cons {x y xs ys} (h : Wf x y) (hs : WfL xs ys) : WfL (x :: xs) (y :: ys)
theorem WfL.length {xs ys} (h : WfL xs ys) : xs.length = ys.length := by
  induction h with
  | nil => rfl
  | cons _ _ ih => simp [ih]
theorem WfL.get {xs ys} (h : WfL xs ys) : ∀ i (h1 : i < xs.length) (h2 : i < ys.length), Wf xs[i] ys[i] := by
  induction h with
  | nil => intro i h; simp at h
  | cons h _ ih =>
    intro i h1 h2
    cases i with
    | zero => exact h
    | succ i => exact ih i (by simpa using h1) (by simpa using h2)
theorem WfL.refl : ∀ {xs : List D}, WfL xs xs
  | [] => .nil
  | _ :: _ => .cons .refl WfL.refl
theorem WfL.append {xs ys xs' ys'} (h : WfL xs ys) (k : WfL xs' ys') : WfL (xs ++ xs') (ys ++ ys') := by
  induction h with
  | nil => exact k
  | cons h _ ih => exact .cons h ih
theorem Wf.agg' {xs ys : List D} (h : WfL xs ys) : Wf (.agg xs) (.agg ys) := .agg h.length h.get
theorem Wf.tup' {xs ys : List D} (h : WfL xs ys) : Wf (.tup xs) (.tup ys) := .tup h.length h.get
theorem Wf.sl' {own : Option Nat} {sz len : Nat} {xs ys : List D} (h : WfL xs ys) : Wf (.sl own sz len xs) (.sl none sz len ys) := .sl h.length h.get
theorem Wf.to_Wk {n : Nat} {d d' : D} (h : Wf d d') (hl : DLow n d') : Wk n d d' := fun r v _ hr => hl.lower (h r v hr)

/-- Temporaries that are kept, by their numbers; of all others nothing is known. -/
def envL : List (Nat × D) → DEnv
  | [], _ => .bot
  | (i, d) :: l, t => if t = i then d else envL l t
inductive WfE (ρ : DEnv) : List (Nat × D) → Prop
  | nil : WfE ρ []
  | cons {i d l} (h : Wf (ρ i) d) (hs : WfE ρ l) : WfE ρ ((i, d) :: l)
theorem WfE.all {ρ : DEnv} {l : List (Nat × D)} (h : WfE ρ l) : ∀ t, Wf (ρ t) (envL l t) := by
  induction h with
  | nil => intro t; exact .bot
  | @cons i d l h _ ih =>
    intro t
    simp only [envL]
    split
    · rename_i e; subst e; exact h
    · exact ih t
theorem Go.keep {c : Code} (l : List (Nat × D)) (hw : WfE ρ l) (h : Go P orc fl sz (.code c :: k) .normal (envL l) S Q) : Go P orc fl sz (.code c :: k) .normal ρ S Q := by
  obtain ⟨e, ρ1, H1, hb, h⟩ := h
  exact ⟨e, ρ1, H1, .forget hw.all hb, h⟩

theorem Wf.slxE {sz : Nat} : Wf (.sl none sz 0 []) (.sl none sz 0 []) := .refl
/-- An empty slice is nil, or it is not. -/
theorem CallD.nilOr {f : FuncId} {pre post : List D} {sz : Nat} {d : D} (h1 : CallD P orc f (pre ++ .nils :: post) S fun d' S' => S' = S ∧ d' = d) (h2 : CallD P orc f (pre ++ .slx :: post) S fun d' S' => S' = S ∧ d' = d) :
    CallD P orc f (pre ++ .sl none sz 0 [] :: post) S fun d' S' => S' = S ∧ d' = d := by
  obtain ⟨d1, S1, b1, rfl, rfl⟩ := h1
  obtain ⟨d2, S2, b2, rfl, rfl⟩ := h2
  refine ⟨_, _, .either b1 b2 fun r vs hd => ?_, rfl, rfl⟩
  have key : ∀ {x : D} (i : Nat) (v : Value), i = pre.length → vs[i]? = some v → DRel r x v → DL r (pre ++ x :: post) vs := by
    intro x i v hi hv hx
    subst hi
    refine ⟨by simpa using hd.1, fun j a b => ?_⟩
    rcases Nat.lt_trichotomy j pre.length with hj | hj | hj
    · have := hd.2 j (by simp; omega) b
      rw [List.getElem_append_left hj] at this ⊢
      exact this
    · subst hj
      simp only [List.getElem_append_right (Nat.le_refl _), Nat.sub_self, List.getElem_cons_zero]
      rw [List.getElem?_eq_getElem b] at hv
      cases hv
      exact hx
    · have := hd.2 j (by simp at a ⊢; omega) b
      obtain ⟨m, rfl⟩ := Nat.exists_eq_add_of_lt hj
      simp only [List.getElem_append_right (show pre.length ≤ pre.length + m + 1 by omega), show pre.length + m + 1 - pre.length = m + 1 by omega, List.getElem_cons_succ] at this ⊢
      exact this
  have hl : pre.length < vs.length := by rw [← hd.1]; simp
  have hv := hd.2 pre.length (by simp) hl
  simp only [List.getElem_append_right (Nat.le_refl _), Nat.sub_self, List.getElem_cons_zero] at hv
  have hg : vs[pre.length]? = some vs[pre.length] := List.getElem?_eq_getElem hl
  generalize vs[pre.length] = v at hv hg
  cases hv with
  | sl _ _ _ _ us h0 o m b hk hgb hz hr hm hl' hs ho hc => exact .inr (key _ _ rfl hg (.slx _ _))
  | slE _ _ he =>
    rcases he with rfl | rfl
    · exact .inl (key _ _ rfl hg .nils)
    · exact .inr (key _ _ rfl hg (.slx _ _))

/-- A call is handed less than is known. -/
theorem CallD.weak {f : FuncId} {args args' : List D} {R : D → Mem → Prop} (hw : WfL args args') (h : CallD P orc f args' S R) : CallD P orc f args S R := by
  obtain ⟨d, S1, hb, hr⟩ := h
  exact ⟨d, S1, .weak hb hw.length hw.get, hr⟩

/-- A call of which nothing new is kept but what it tells. -/
theorem CallD.drop {f : FuncId} {args : List D} {R : D → Prop}
    (h : CallD P orc f args S fun d S1 => ∃ d' E, S1 = S ++ E ∧ Wk S.length d d' ∧ R d') : CallD P orc f args S fun d S' => S' = S ∧ R d := by
  obtain ⟨d, S1, hb, d', E, rfl, hw, hr⟩ := h
  refine ⟨d', (S ++ E).take S.length, .drop hb (by simp) hw fun o cells ho hc => .inl ?_, by simp, hr⟩
  unfold objAt at hc ⊢
  rwa [List.getElem?_append_left ho] at hc
end
end Go.DM
