/- A machine over Go's operations in which slices are values: what it does, the model does. -/
import Derived.Test.YtipeffaojbhbmaaDoorDmG
set_option linter.unusedSimpArgs false
set_option linter.unusedVariables false
namespace Go.DM
open Go Go.AM

inductive DJob where
  | ops (sz : Nat) (ops : Array Oper) (l : List Nat) (ρ : DEnv)
  | code (sz : Nat) (c : Code) (ρ : DEnv)
  | call (f : FuncId) (args : List D)
inductive DOut where
  | env (ρ : DEnv)
  | exit (e : AExit) (ρ : DEnv)
  | val (d : D)

/-- What holds a value d of, holds d' of, with but n objects left. -/
def Wk (n : Nat) (d d' : D) : Prop := ∀ (r : Rl) (v : Value), n ≤ r.n → DRel r d v → DRel ⟨n, r.ψ, r.k, r.H⟩ d' v
/-- What holds a value d of, holds d' of. -/
def Wf (d d' : D) : Prop := ∀ (r : Rl) (v : Value), DRel r d v → DRel r d' v
def memLow (n : Nat) (S : Mem) : Prop := ∀ o cells, o < n → objAt S o = some cells → ∀ c ∈ cells, Wk n c c

abbrev DOracle := FuncId → List D → D → Prop

inductive BigD (P : Program) (orc : DOracle) : Nat → DJob → Mem → DOut → Mem → Prop
  | opsNil {m sz ops ρ S} : BigD P orc m (.ops sz ops [] ρ) S (.env ρ) S
  | opsSkip {m sz ops i l ρ S out S' o g b} (ho : ops[i]? = some o) (hg : o.guard = some g) (hy : yieldS ops ρ g.1 = some b) (hw : (b == some g.2) = false) (hd : okDst sz o.dst)
      (h : BigD P orc m (.ops sz ops l (putD ρ o.dst dUndef)) S out S') : BigD P orc m (.ops sz ops (i :: l) ρ) S out S'
  | opsOp {m sz ops i l ρ S S1 v out S' o} (ho : ops[i]? = some o) (hw : Region.wanted o (yieldedD ops ρ) = true) (hd : okDst sz o.dst)
      (hc : o.op.operands.toList.all okOperand = true) (hop : opD P ρ o.op S = some (v, S1))
      (h : BigD P orc m (.ops sz ops l (putD ρ o.dst v)) S1 out S') : BigD P orc m (.ops sz ops (i :: l) ρ) S out S'
  | opsCall {m sz ops i l ρ S S1 v out S' o f args fn} (ho : ops[i]? = some o) (hw : Region.wanted o (yieldedD ops ρ) = true) (hd : okDst sz o.dst)
      (hc : o.op.operands.toList.all okOperand = true) (ht : targetD ρ o.op = some (f, args)) (hf : P.funcs[f]? = some fn) (hn : fn.name ≠ "runtime.NumGoroutine") (hb : fn.body.isNone = false)
      (hcall : BigD P orc 0 (.call f args) S (.val v) S1) (h : BigD P orc m (.ops sz ops l (putD ρ o.dst v)) S1 out S') : BigD P orc m (.ops sz ops (i :: l) ρ) S out S'
  | skip {m sz ρ S} : BigD P orc m (.code sz .skip ρ) S (.exit .normal ρ) S
  | label {m sz ρ S l} : BigD P orc m (.code sz (.label l) ρ) S (.exit .normal ρ) S
  | exit {m sz ρ S id} : BigD P orc m (.code sz (.exit id) ρ) S (.exit (.exit id) ρ) S
  | ret {m sz ρ S} : BigD P orc m (.code sz .ret ρ) S (.exit .ret ρ) S
  | seqN {m sz c d ρ ρ1 S S1 out S'} (h1 : BigD P orc m (.code sz c ρ) S (.exit .normal ρ1) S1) (h2 : BigD P orc m (.code sz d ρ1) S1 out S') : BigD P orc m (.code sz (.seq c d) ρ) S out S'
  | seqE {m sz c d ρ ρ1 S S1 e} (h1 : BigD P orc m (.code sz c ρ) S (.exit e ρ1) S1) (he : e ≠ .normal) : BigD P orc m (.code sz (.seq c d) ρ) S (.exit e ρ1) S1
  | cond {m sz c x y ρ S out S' t} (hk : okOperand c = true) (hc : evalD ρ c = .bool t) (h : BigD P orc m (.code sz (if t then x else y) ρ) S out S') : BigD P orc m (.code sz (.cond c x y) ρ) S out S'
  | blockN {m sz id c ρ ρ1 S S1} (h : BigD P orc m (.code sz c ρ) S (.exit .normal ρ1) S1) : BigD P orc m (.code sz (.block id c) ρ) S (.exit .normal ρ1) S1
  | blockX {m sz id c ρ ρ1 S S1} (h : BigD P orc m (.code sz c ρ) S (.exit (.exit id) ρ1) S1) : BigD P orc m (.code sz (.block id c) ρ) S (.exit .normal ρ1) S1
  | blockE {m sz id c ρ ρ1 S S1 e} (h : BigD P orc m (.code sz c ρ) S (.exit e ρ1) S1) (h1 : e ≠ .normal) (h2 : e ≠ .exit id) : BigD P orc m (.code sz (.block id c) ρ) S (.exit e ρ1) S1
  | loopN {m sz c ρ ρ1 S S1 out S'} (h1 : BigD P orc m (.code sz c ρ) S (.exit .normal ρ1) S1) (h2 : BigD P orc m (.code sz (.loop c) ρ1) S1 out S') : BigD P orc m (.code sz (.loop c) ρ) S out S'
  | loopE {m sz c ρ ρ1 S S1 e} (h1 : BigD P orc m (.code sz c ρ) S (.exit e ρ1) S1) (he : e ≠ .normal) : BigD P orc m (.code sz (.loop c) ρ) S (.exit e ρ1) S1
  | region {m sz id ops ρ ρ1 S S1} (h : BigD P orc m (.ops sz ops (List.range ops.size) ρ) S (.env ρ1) S1) : BigD P orc m (.code sz (.region id ops false) ρ) S (.exit .normal ρ1) S1
  | regionD {m sz id ops ρ ρ1 S S1} (hm : P.follows .mixedOrders = true) (h : ∀ t, BigD P orc m (.ops sz ops (Region.linearise .any ops t) ρ) S (.env ρ1) S1) : BigD P orc m (.code sz (.region id ops true) ρ) S (.exit .normal ρ1) S1
  /-- Temporaries are forgotten, objects that came new are dropped. -/
  | trim {m sz c ρ ρ' S n out S'} (hm : m ≤ n) (hn : n ≤ S.length) (hw : ∀ t, Wk n (ρ t) (ρ' t)) (hl : memLow n S) (h : BigD P orc m (.code sz c ρ') (S.take n) out S') : BigD P orc m (.code sz c ρ) S out S'
  /-- Temporaries are known less. -/
  | forget {m sz c ρ ρ' S out S'} (hw : ∀ t, Wf (ρ t) (ρ' t)) (h : BigD P orc m (.code sz c ρ') S out S') : BigD P orc m (.code sz c ρ) S out S'
  | call {m f args fn c e ρ S S' v} (hf : P.funcs[f]? = some fn) (hb : fn.body = some c) (ha : args.length ≤ fn.ntmps)
      (h : BigD P orc S.length (.code fn.ntmps c (initD args)) S (.exit e ρ) S') (he : e = .normal ∨ e = .ret) (hv : resultsD P fn ρ S' = some v) : BigD P orc m (.call f args) S (.val v) S'
  /-- A call is handed less than is known. -/
  | weak {m f args args' S S1 v} (h : BigD P orc m (.call f args') S (.val v) S1) (hl : args.length = args'.length) (hw : ∀ i (h : i < args.length) (h' : i < args'.length), Wf args[i] args'[i]) : BigD P orc m (.call f args) S (.val v) S1
  /-- Of a call one of two things is known. -/
  | either {m f args args1 args2 S S1 v} (h1 : BigD P orc m (.call f args1) S (.val v) S1) (h2 : BigD P orc m (.call f args2) S (.val v) S1) (hc : ∀ r vs, DL r args vs → DL r args1 vs ∨ DL r args2 vs) : BigD P orc m (.call f args) S (.val v) S1
  | orc {m f args S v} (h : orc f args v) : BigD P orc m (.call f args) S (.val v) S
  | drop {m f args S S1 d d'} (h : BigD P orc 0 (.call f args) S (.val d) S1) (hl : S.length ≤ S1.length) (hw : Wk S.length d d') (ho : ∀ o cells, o < S.length → objAt S1 o = some cells → objAt S o = some cells ∨ ∀ c ∈ cells, DLow S.length c) : BigD P orc m (.call f args) S (.val d') (S1.take S.length)

def envRel (r : Rl) (ρ : DEnv) (ρA : Env) : Prop := ∀ t, DRel r (ρ t) (ρA t)
theorem envRel.put {r ρ ρA} (h : envRel r ρ ρA) {d : D} {v : Value} (hv : DRel r d v) (dst : Option Tmp) : envRel r (putD ρ dst d) (put ρA dst v) := by
  intro t
  cases dst with
  | none => exact h t
  | some u =>
    simp only [putD, updD, AM.put, AM.upd]
    split
    · exact hv
    · exact h t
theorem envRel.mono {r r' : Rl} (l : r.Le r') {ρ ρA} (h : envRel r ρ ρA) : envRel r' ρ ρA := fun t => (h t).mono l

/-- From one memory to a later one, with m objects at the least. -/
structure LeF (m : Nat) (r r' : Rl) : Prop where
  n : m ≤ r'.n
  ψ : ∀ i, i < m → r'.ψ i = r.ψ i
  len : r.H.length ≤ r'.H.length
  k : ∀ h b, r.k h = true → hget r.H h = some b → r'.k h = true ∧ ∃ b', hget r'.H h = some b' ∧ b'.cells = b.cells ∧ b'.sz = b.sz
theorem LeF.refl {m : Nat} {r : Rl} (h : m ≤ r.n) : LeF m r r := ⟨h, fun _ _ => rfl, Nat.le_refl _, fun _ b h g => ⟨h, b, g, rfl, rfl⟩⟩
theorem LeF.trans {m : Nat} {a b c : Rl} (x : LeF m a b) (y : LeF m b c) : LeF m a c :=
  ⟨y.n, fun i h => (y.ψ i h).trans (x.ψ i h), Nat.le_trans x.len y.len, fun h q hk hg => by
    obtain ⟨k1, b1, g1, e1, z1⟩ := x.k h q hk hg
    obtain ⟨k2, b2, g2, e2, z2⟩ := y.k h b1 k1 g1
    exact ⟨k2, b2, g2, e2.trans e1, z2.trans z1⟩⟩
theorem LeF.of {m : Nat} {r r' : Rl} (l : r.Le r') (h : m ≤ r.n) : LeF m r r' := ⟨Nat.le_trans h l.n, fun i hi => l.ψ i (Nat.lt_of_lt_of_le hi h), l.len, l.k⟩
theorem LeF.le {r r' : Rl} (l : LeF r.n r r') : r.Le r' := ⟨l.n, l.ψ, l.len, l.k⟩

/-- What is kept of memory beside: a fact that every step keeps. -/
abbrev Beside := (Nat → AM.Place) → Heap → World → Prop
def Kept (A : Beside) : Prop := ∀ φ H w φ' H' w', A φ H w → Step 0 φ H w φ' H' w' → A φ' H' w'
def SimA (A : Beside) (φ : Nat → AM.Place) (H : Heap) (w : World) : Prop := Sim φ H w ∧ A φ H w
def DOrcSound (P : Program) (A : Beside) (orc : DOracle) : Prop :=
  ∀ f args v, orc f args v → ∀ r φ w, SimA A φ r.H w → ∀ vs args', DL r args vs → LRel r.H.length φ vs args'.toList →
    Calls P f args' w fun e w' => ∃ r' u v' φ', e = .returned v' ∧ r.Le r' ∧ (∀ S, SRel r S → SRel r' S) ∧ Step 0 φ r.H w φ' r'.H w' ∧ DRel r' v u ∧ VRel r'.H.length φ' u v'

def DMotive (P : Program) (A : Beside) (m : Nat) (j : DJob) (S : Mem) (out : DOut) (S' : Mem) : Prop :=
  ∀ r φ w, SRel r S → SimA A φ r.H w →
    match j, out with
    | .ops sz ops l ρ, .env ρ' => m ≤ r.n → ∀ ρA a, envRel r ρ ρA → ERel r.H.length φ sz ρA a → ∀ Q : Exit → Act → World → Prop,
        (∀ r' φ' ρA' a' w', LeF m r r' → SRel r' S' → Step 0 φ r.H w φ' r'.H w' → envRel r' ρ' ρA' → ERel r'.H.length φ' sz ρA' a' → Q .normal a' w') → wpOps P ops Q l a w
    | .code sz c ρ, .exit e ρ' => m ≤ r.n → ∀ ρA a, envRel r ρ ρA → ERel r.H.length φ sz ρA a → ∀ Q : Exit → Act → World → Prop,
        (∀ r' φ' ρA' a' w', LeF m r r' → SRel r' S' → Step 0 φ r.H w φ' r'.H w' → envRel r' ρ' ρA' → ERel r'.H.length φ' sz ρA' a' → Q (toExit e) a' w') → wpL P c Q a w
    | .call f args, .val d => ∀ vs args', DL r args vs → LRel r.H.length φ vs args'.toList → ∀ R : Ending → World → Prop,
        (∀ r' u v' φ' w', r.Le r' → SRel r' S' → Step 0 φ r.H w φ' r'.H w' → DRel r' d u → VRel r'.H.length φ' u v' → R (.returned v') w') → Calls P f args' w R
    | _, _ => True

theorem yielded_rel {r ρ ρA} (he : envRel r ρ ρA) (ops : Array Oper) (j : Nat) {b : Bool} (h : yieldedD ops ρ j = some b) : yieldedA ops ρA j = some b := by
  unfold yieldedD at h
  unfold yieldedA
  split at h
  · rename_i t ht
    have := he t
    split at h
    · rename_i c hc
      cases h
      rw [hc] at this
      generalize hv : ρA t = v at this
      cases this
      simp only [ht, hv]
    · cases h
  · cases h

theorem wanted_rel {r ρ ρA} (he : envRel r ρ ρA) {ops : Array Oper} {o : Oper} (h : Region.wanted o (yieldedD ops ρ) = true) : Region.wanted o (yieldedA ops ρA) = true := by
  unfold Region.wanted at h ⊢
  split at h
  · rename_i hg; simp
  · rename_i g want hg
    have : yieldedD ops ρ g = some want := by simpa using h
    rw [yielded_rel he ops g this]
    simp
theorem yieldS_rel {r ρ ρA} (he : envRel r ρ ρA) (ops : Array Oper) (j : Nat) {b : Option Bool} (h : yieldS ops ρ j = some b) : yieldedA ops ρA j = b := by
  unfold yieldS at h
  unfold yieldedA
  split at h
  · rename_i t ht
    have := he t
    split at h
    · rename_i c hc
      cases h
      rw [hc] at this
      generalize hv : ρA t = v at this
      cases this
      simp only [ht, hv]
    · rename_i hc
      cases h
      rw [hc] at this
      generalize hv : ρA t = v at this
      cases this
      simp only [ht, hv]
    · cases h
  · cases h
theorem unwanted_rel {r ρ ρA} (he : envRel r ρ ρA) {ops : Array Oper} {o : Oper} {g : Nat × Bool} {b : Option Bool} (hg : o.guard = some g) (hy : yieldS ops ρ g.1 = some b) (hb : (b == some g.2) = false) : Region.wanted o (yieldedA ops ρA) = false := by
  obtain ⟨g, want⟩ := g
  unfold Region.wanted
  rw [hg]
  simp only
  rw [yieldS_rel he ops g hy]
  exact hb

theorem target_rel {r ρ ρA} (he : envRel r ρ ρA) {op : Op} {f : FuncId} {args : List D} (h : targetD ρ op = some (f, args)) : ∃ vs, targetA ρA op = some (f, vs) ∧ DL r args vs := by
  unfold targetD at h
  split at h
  · rename_i fo argo ato
    have hf := eval_rel he fo
    split at h
    · rename_i g first captured hg
      cases h
      rw [hg] at hf
      generalize hv : evalA ρA fo = v at hf
      cases hf with
      | fn _ _ _ ys ds h1 h2 h3 h4 =>
        refine ⟨_, by simp only [targetA, hv]; rfl, ?_⟩
        have a1 : DL r first ys.toList := ⟨by simpa using h1, fun i a b => by have := h2 i a (by simpa using b); rwa [← Array.getElem_toList] at this⟩
        have a2 : DL r captured ds.toList := ⟨by simpa using h3, fun i a b => by have := h4 i a (by simpa using b); rwa [← Array.getElem_toList] at this⟩
        exact (a1.append (evals_rel he argo.toList)).append a2
    · cases h
  · cases h

theorem SRel.take {r : Rl} {S : Mem} (hS : SRel r S) {n : Nat} (hn : n ≤ S.length) (hl : memLow n S) : SRel ⟨n, r.ψ, r.k, r.H⟩ (S.take n) := by
  have hget : ∀ {i : Nat} {x : Ob}, (S.take n)[i]? = some x → i < n ∧ S[i]? = some x := by
    intro i x h
    rw [List.getElem?_take] at h
    split at h
    · exact ⟨by assumption, h⟩
    · cases h
  refine ⟨by simp [Nat.min_eq_left hn], ?_, ?_, ?_⟩
  · intro o cells ho
    obtain ⟨h1, h2⟩ := hget (objAt_some ho)
    have h3 : objAt S o = some cells := by simp [objAt, h2]
    obtain ⟨b, g, w, l, kk, dl⟩ := hS.obj o cells h3
    refine ⟨b, g, w, l, kk, dl.1, fun i a c => ?_⟩
    exact hl o cells h1 h3 _ (List.getElem_mem _) r _ (by rw [hS.n]; exact hn) (dl.2 i a c)
  · intro id hid
    obtain ⟨h1, h2⟩ := hget hid
    exact hS.own id h2
  · intro i j hij ⟨x, hx, hxd⟩ ⟨y, hy, hyd⟩
    exact hS.inj i j hij ⟨x, (hget hx).2, hxd⟩ ⟨y, (hget hy).2, hyd⟩
end Go.DM
