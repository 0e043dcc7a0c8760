/- A machine over Go's operations in which slices are values: what it does, the model does. -/
import Derived.Test.YtpdnaoahghfaoaaGreatDoorDmAx
import Derived.Test.YtpdnaoahghfaoaaGreatDoorAmKx
set_option linter.unusedSimpArgs false
set_option linter.unusedVariables false
namespace Go.DM
open Go Go.AM

inductive DJob where
  | ops (sz : Nat) (ops : Array Oper) (l : List Nat) (ρ : DEnv)
  | code (sz : Nat) (c : Code) (ρ : DEnv)
  | call (f : FuncId) (args : List D)
inductive DOut where
  | env (ρ : DEnv)
  | exit (e : AExit) (ρ : DEnv)
  | val (d : D)

/-- What holds a value d of, holds d' of, with but n objects left. -/
def Wk (n : Nat) (d d' : D) : Prop := ∀ (r : Rl) (v : Value), n ≤ r.n → DRel r d v → DRel ⟨n, r.ψ, r.k, r.H⟩ d' v
/-- What holds a value d of, holds d' of. -/
def Wf (d d' : D) : Prop := ∀ (r : Rl) (v : Value), DRel r d v → DRel r d' v
theorem DLow.rename {m n : Nat} {d : D} (h : DLow m d) (hmn : m ≤ n) : ∀ {r : Rl} {v : Value} {ψ' : Nat → Nat} {k' : Nat → Bool}, (∀ i, i < m → ψ' i = r.ψ i) → (∀ h, r.k h = true → k' h = true) → DRel r d v → DRel ⟨n, ψ', k', r.H⟩ d v := by
  induction h with
  | bool b => intro r v ψ' k' _ _ h; cases h; exact .bool b
  | int k x => intro r v ψ' k' _ _ h; cases h; exact .int k x
  | str s => intro r v ψ' k' _ _ h; cases h; exact .str s
  | nilp => intro r v ψ' k' _ _ h; cases h; exact .nilp
  | ptr o off ho =>
    intro r v ψ' k' hp _ h
    cases h
    have := DRel.ptr (r := ⟨n, ψ', k', r.H⟩) o off (Nat.lt_of_lt_of_le ho hmn)
    rw [show (Rl.mk n ψ' k' r.H).ψ o = r.ψ o from hp o ho] at this
    exact this
  | eptr cells off _ ih =>
    intro r v ψ' k' hp hk' h
    cases h with | eptr _ _ vs h o hk hr hl hc => exact .eptr (r := ⟨n, ψ', k', r.H⟩) cells off vs h o (hk' _ hk) hr hl fun i h1 h2 => ih i h1 hp hk' (hc i h1 h2)
  | nils => intro r v ψ' k' _ _ h; cases h; exact .nils
  | sl0 => intro r v ψ' k' _ _ h; cases h with | sl0 _ h => exact .sl0 _ h
  | slx => intro r v ψ' k' _ _ h; cases h with | slx a m => exact .slx a m
  | sl own sz len cells ho _ ih =>
    intro r v ψ' k' hp hk' h
    cases h with
    | sl _ _ _ _ vs h o m b hk hg hz hr hm hl hs ho' hc =>
      exact .sl (r := ⟨n, ψ', k', r.H⟩) own sz len cells vs h o m b (hk' _ hk) hg hz hr hm hl hs (fun id e => ⟨Nat.lt_of_lt_of_le (ho id e) hmn, (hp id (ho id e)).trans (ho' id e).2.1, (ho' id e).2.2⟩) fun i h1 h2 => ih i h1 hp hk' (hc i h1 h2)
    | slE _ _ h => exact .slE _ _ h
  | msl o sz len ho =>
    intro r v ψ' k' hp _ h
    cases h with
    | msl _ _ _ ho' hlt hz =>
      have e : (Rl.mk n ψ' k' r.H).ψ o = r.ψ o := hp o ho
      have := DRel.msl (r := ⟨n, ψ', k', r.H⟩) o sz len (Nat.lt_of_lt_of_le ho hmn) (by rw [e]; exact hlt) (by rw [e]; exact hz)
      rw [e] at this
      exact this
  | fn f xs cs _ _ i1 i2 => intro r v ψ' k' hp hk' h; cases h with | fn _ _ _ ys ds h1 h2 h3 h4 => exact .fn f xs cs ys ds h1 (fun i a b => i1 i a hp hk' (h2 i a b)) h3 fun i a b => i2 i a hp hk' (h4 i a b)
  | nilf => intro r v ψ' k' _ _ h; cases h; exact .nilf
  | iface t d _ ih => intro r v ψ' k' hp hk' h; cases h with | iface _ _ v h => exact .iface t d v (ih hp hk' h)
  | nili => intro r v ψ' k' _ _ h; cases h; exact .nili
  | agg xs _ ih => intro r v ψ' k' hp hk' h; cases h with | agg _ ys h1 h2 => exact .agg xs ys h1 fun i a b => ih i a hp hk' (h2 i a b)
  | tup xs _ ih => intro r v ψ' k' hp hk' h; cases h with | tup _ ys h1 h2 => exact .tup xs ys h1 fun i a b => ih i a hp hk' (h2 i a b)
  | bot => intro r v ψ' k' _ _ h; exact .bot v
def memLow (n : Nat) (S : Mem) : Prop := ∀ o cells, o < n → objAt S o = some cells → ∀ c ∈ cells, Wk n c c

/-- What is known of calls: with what, in which memory, what comes back, which memory. -/
abbrev DOracle := FuncId → List D → Mem → D → Mem → Prop
/-- What may be forgotten when a call returns: an object i is another one's, those of F are slices from then on, there are n of them. -/
def Wz (S : Mem) (F : List Nat) (ι : Nat → Nat) (n : Nat) (d d' : D) : Prop := ∀ (r : Rl) (v : Value), SRel r S → DRel r d v → DRel ⟨n, fun i => r.ψ (ι i), fun h => r.k h || F.any (fun o => r.ψ o == h), r.H⟩ d' v

inductive BigD (P : Program) (orc : DOracle) : Nat → DJob → Mem → DOut → Mem → Prop
  | opsNil {m sz ops ρ S} : BigD P orc m (.ops sz ops [] ρ) S (.env ρ) S
  | opsSkip {m sz ops i l ρ S out S' o g b} (ho : ops[i]? = some o) (hg : o.guard = some g) (hy : yieldS ops ρ g.1 = some b) (hw : (b == some g.2) = false) (hd : okDst sz o.dst)
      (h : BigD P orc m (.ops sz ops l (putD ρ o.dst dUndef)) S out S') : BigD P orc m (.ops sz ops (i :: l) ρ) S out S'
  | opsOp {m sz ops i l ρ S S1 v out S' o} (ho : ops[i]? = some o) (hw : Region.wanted o (yieldedD ops ρ) = true) (hd : okDst sz o.dst)
      (hc : o.op.operands.toList.all okOperand = true) (hop : opM P ρ o.op S v S1)
      (h : BigD P orc m (.ops sz ops l (putD ρ o.dst v)) S1 out S') : BigD P orc m (.ops sz ops (i :: l) ρ) S out S'
  | opsCall {m sz ops i l ρ S S1 v out S' o f args fn} (ho : ops[i]? = some o) (hw : Region.wanted o (yieldedD ops ρ) = true) (hd : okDst sz o.dst)
      (hc : o.op.operands.toList.all okOperand = true) (ht : targetD ρ o.op = some (f, args)) (hf : P.funcs[f]? = some fn) (hn : fn.name ≠ "runtime.NumGoroutine") (hb : fn.body.isNone = false)
      (hcall : BigD P orc 0 (.call f args) S (.val v) S1) (h : BigD P orc m (.ops sz ops l (putD ρ o.dst v)) S1 out S') : BigD P orc m (.ops sz ops (i :: l) ρ) S out S'
  | skip {m sz ρ S} : BigD P orc m (.code sz .skip ρ) S (.exit .normal ρ) S
  | label {m sz ρ S l} : BigD P orc m (.code sz (.label l) ρ) S (.exit .normal ρ) S
  | exit {m sz ρ S id} : BigD P orc m (.code sz (.exit id) ρ) S (.exit (.exit id) ρ) S
  | ret {m sz ρ S} : BigD P orc m (.code sz .ret ρ) S (.exit .ret ρ) S
  | seqN {m sz c d ρ ρ1 S S1 out S'} (h1 : BigD P orc m (.code sz c ρ) S (.exit .normal ρ1) S1) (h2 : BigD P orc m (.code sz d ρ1) S1 out S') : BigD P orc m (.code sz (.seq c d) ρ) S out S'
  | seqE {m sz c d ρ ρ1 S S1 e} (h1 : BigD P orc m (.code sz c ρ) S (.exit e ρ1) S1) (he : e ≠ .normal) : BigD P orc m (.code sz (.seq c d) ρ) S (.exit e ρ1) S1
  | cond {m sz c x y ρ S out S' t} (hk : okOperand c = true) (hc : evalD ρ c = .bool t) (h : BigD P orc m (.code sz (if t then x else y) ρ) S out S') : BigD P orc m (.code sz (.cond c x y) ρ) S out S'
  | blockN {m sz id c ρ ρ1 S S1} (h : BigD P orc m (.code sz c ρ) S (.exit .normal ρ1) S1) : BigD P orc m (.code sz (.block id c) ρ) S (.exit .normal ρ1) S1
  | blockX {m sz id c ρ ρ1 S S1} (h : BigD P orc m (.code sz c ρ) S (.exit (.exit id) ρ1) S1) : BigD P orc m (.code sz (.block id c) ρ) S (.exit .normal ρ1) S1
  | blockE {m sz id c ρ ρ1 S S1 e} (h : BigD P orc m (.code sz c ρ) S (.exit e ρ1) S1) (h1 : e ≠ .normal) (h2 : e ≠ .exit id) : BigD P orc m (.code sz (.block id c) ρ) S (.exit e ρ1) S1
  | loopN {m sz c ρ ρ1 S S1 out S'} (h1 : BigD P orc m (.code sz c ρ) S (.exit .normal ρ1) S1) (h2 : BigD P orc m (.code sz (.loop c) ρ1) S1 out S') : BigD P orc m (.code sz (.loop c) ρ) S out S'
  | loopE {m sz c ρ ρ1 S S1 e} (h1 : BigD P orc m (.code sz c ρ) S (.exit e ρ1) S1) (he : e ≠ .normal) : BigD P orc m (.code sz (.loop c) ρ) S (.exit e ρ1) S1
  | region {m sz id ops ρ ρ1 S S1} (h : BigD P orc m (.ops sz ops (List.range ops.size) ρ) S (.env ρ1) S1) : BigD P orc m (.code sz (.region id ops false) ρ) S (.exit .normal ρ1) S1
  | regionD {m sz id ops ρ ρ1 S S1} (hm : P.follows .mixedOrders = true) (h : ∀ t, BigD P orc m (.ops sz ops (Region.linearise .any ops t) ρ) S (.env ρ1) S1) : BigD P orc m (.code sz (.region id ops true) ρ) S (.exit .normal ρ1) S1
  /-- Temporaries are forgotten, objects that came new are dropped. -/
  | trim {m sz c ρ ρ' S n out S'} (hm : m ≤ n) (hn : n ≤ S.length) (hw : ∀ t, Wk n (ρ t) (ρ' t)) (hl : memLow n S) (h : BigD P orc m (.code sz c ρ') (S.take n) out S') : BigD P orc m (.code sz c ρ) S out S'
  /-- Temporaries are known less. -/
  | forget {m sz c ρ ρ' S out S'} (hw : ∀ t, Wf (ρ t) (ρ' t)) (h : BigD P orc m (.code sz c ρ') S out S') : BigD P orc m (.code sz c ρ) S out S'
  | call {m f args fn c e ρ S S' v} (hf : P.funcs[f]? = some fn) (hb : fn.body = some c) (ha : args.length ≤ fn.ntmps)
      (h : BigD P orc S.length (.code fn.ntmps c (initD args)) S (.exit e ρ) S') (he : e = .normal ∨ e = .ret) (hv : resultsD P fn ρ S' = some v) : BigD P orc m (.call f args) S (.val v) S'
  /-- A call is handed less than is known. -/
  | weak {m f args args' S S1 v} (h : BigD P orc m (.call f args') S (.val v) S1) (hl : args.length = args'.length) (hw : ∀ i (h : i < args.length) (h' : i < args'.length), Wf args[i] args'[i]) : BigD P orc m (.call f args) S (.val v) S1
  /-- Of a call one of two things is known. -/
  | either {m f args args1 args2 S S1 v} (h1 : BigD P orc m (.call f args1) S (.val v) S1) (h2 : BigD P orc m (.call f args2) S (.val v) S1) (hc : ∀ r vs, DL r args vs → DL r args1 vs ∨ DL r args2 vs) : BigD P orc m (.call f args) S (.val v) S1
  | orc {m f args S v S'} (h : orc f args S v S') : BigD P orc m (.call f args) S (.val v) S'
  | drop {m f args S S1 d d'} (h : BigD P orc 0 (.call f args) S (.val d) S1) (hl : S.length ≤ S1.length) (hw : Wk S.length d d') (ho : ∀ o cells, o < S.length → objAt S1 o = some cells → objAt S o = some cells ∨ ∀ c ∈ cells, DLow S.length c) : BigD P orc m (.call f args) S (.val d') (S1.take S.length)
  /-- Of what came new some objects are kept, each under another number. -/
  | keep {m f args S S1 S2 d d'} (F : List Nat) (ι : Nat → Nat) (h : BigD P orc 0 (.call f args) S (.val d) S1) (hl : S.length ≤ S2.length) (hι : ∀ i, i < S.length → ι i = i)
      (hinj : ∀ i j, i < S2.length → j < S2.length → ι i = ι j → i = j) (hF : ∀ o ∈ F, ∃ cells, objAt S1 o = some cells) (hdis : ∀ i, i < S2.length → ι i ∉ F)
      (hobj : ∀ i cells, objAt S2 i = some cells → (i < S.length ∧ objAt S i = some cells ∧ objAt S1 i = some cells) ∨ ∃ c, objAt S1 (ι i) = some c ∧ c.length = cells.length ∧ ∀ j (h : j < c.length) (h' : j < cells.length), Wz S1 F ι S2.length c[j] cells[j])
      (hown : ∀ i : Nat, S2[i]? = some .own → S1[ι i]? = some .own) (hv : Wz S1 F ι S2.length d d') : BigD P orc m (.call f args) S (.val d') S2

def envRel (r : Rl) (ρ : DEnv) (ρA : Env) : Prop := ∀ t, DRel r (ρ t) (ρA t)
theorem envRel.put {r ρ ρA} (h : envRel r ρ ρA) {d : D} {v : Value} (hv : DRel r d v) (dst : Option Tmp) : envRel r (putD ρ dst d) (put ρA dst v) := by
  intro t
  cases dst with
  | none => exact h t
  | some u =>
    simp only [putD, updD, AM.put, AM.upd]
    split
    · exact hv
    · exact h t
theorem envRel.mono {r r' : Rl} (l : r.Le r') {ρ ρA} (h : envRel r ρ ρA) : envRel r' ρ ρA := fun t => (h t).mono l

/-- From one memory to a later one, with m objects at the least. -/
structure LeF (m : Nat) (r r' : Rl) : Prop where
  n : m ≤ r'.n
  ψ : ∀ i, i < m → r'.ψ i = r.ψ i
  len : r.H.length ≤ r'.H.length
  k : ∀ h b, r.k h = true → hget r.H h = some b → r'.k h = true ∧ ∃ b', hget r'.H h = some b' ∧ b'.cells = b.cells ∧ b'.sz = b.sz
  sz : ∀ h b', h < r.H.length → hget r'.H h = some b' → ∃ b, hget r.H h = some b ∧ b'.sz = b.sz
theorem LeF.refl {m : Nat} {r : Rl} (h : m ≤ r.n) : LeF m r r := ⟨h, fun _ _ => rfl, Nat.le_refl _, fun _ b h g => ⟨h, b, g, rfl, rfl⟩, fun _ b _ g => ⟨b, g, rfl⟩⟩
theorem LeF.trans {m : Nat} {a b c : Rl} (x : LeF m a b) (y : LeF m b c) : LeF m a c :=
  ⟨y.n, fun i h => (y.ψ i h).trans (x.ψ i h), Nat.le_trans x.len y.len, fun h q hk hg => by
    obtain ⟨k1, b1, g1, e1, z1⟩ := x.k h q hk hg
    obtain ⟨k2, b2, g2, e2, z2⟩ := y.k h b1 k1 g1
    exact ⟨k2, b2, g2, e2.trans e1, z2.trans z1⟩, fun h q hh hg => by
    obtain ⟨b1, g1, z1⟩ := y.sz h q (Nat.lt_of_lt_of_le hh x.len) hg
    obtain ⟨b2, g2, z2⟩ := x.sz h b1 hh g1
    exact ⟨b2, g2, z1.trans z2⟩⟩
theorem LeF.of {m : Nat} {r r' : Rl} (l : r.Le r') (h : m ≤ r.n) : LeF m r r' := ⟨Nat.le_trans h l.n, fun i hi => l.ψ i (Nat.lt_of_lt_of_le hi h), l.len, l.k, l.sz⟩
theorem LeF.le {r r' : Rl} (l : LeF r.n r r') : r.Le r' := ⟨l.n, l.ψ, l.len, l.k, l.sz⟩

/-- What is kept of memory beside: a fact that every step keeps. -/
abbrev Beside := (Nat → AM.Place) → Heap → World → Prop
def Kept (A : Beside) : Prop := ∀ φ H w φ' H' w', A φ H w → Step 0 φ H w φ' H' w' → A φ' H' w'
def SimA (A : Beside) (φ : Nat → AM.Place) (H : Heap) (w : World) : Prop := Sim φ H w ∧ A φ H w
def DOrcSound (P : Program) (A : Beside) (orc : DOracle) : Prop :=
  ∀ f args S v S', orc f args S v S' → ∀ r φ w, SRel r S → SimA A φ r.H w → ∀ vs args', DL r args vs → LRel r.H.length φ vs args'.toList →
    Calls P f args' w fun e w' => ∃ r' u v' φ', e = .returned v' ∧ r.Le r' ∧ SRel r' S' ∧ Step 0 φ r.H w φ' r'.H w' ∧ DRel r' v u ∧ VRel r'.H.length φ' u v'
/-- Calls that leave memory as it was. -/
abbrev POracle := FuncId → List D → D → Prop
def pureO (o : POracle) : DOracle := fun f args S v S' => S' = S ∧ o f args v
def POrcSound (P : Program) (A : Beside) (orc : POracle) : Prop :=
  ∀ f args v, orc f args v → ∀ r φ w, SimA A φ r.H w → ∀ vs args', DL r args vs → LRel r.H.length φ vs args'.toList →
    Calls P f args' w fun e w' => ∃ r' u v' φ', e = .returned v' ∧ r.Le r' ∧ (∀ S, SRel r S → SRel r' S) ∧ Step 0 φ r.H w φ' r'.H w' ∧ DRel r' v u ∧ VRel r'.H.length φ' u v'
theorem pureO_sound {P : Program} {A : Beside} {o : POracle} (h : POrcSound P A o) : DOrcSound P A (pureO o) := by
  rintro f args S v S' ⟨rfl, hv⟩ r φ w hS hs vs args' dl ll
  exact (h f args v hv r φ w hs vs args' dl ll).mono fun e w' ⟨r', u, v', φ', h1, h2, h3, h4⟩ => ⟨r', u, v', φ', h1, h2, h3 _ hS, h4⟩

def DMotive (P : Program) (A : Beside) (m : Nat) (j : DJob) (S : Mem) (out : DOut) (S' : Mem) : Prop :=
  ∀ r φ w, SRel r S → SimA A φ r.H w →
    match j, out with
    | .ops sz ops l ρ, .env ρ' => m ≤ r.n → ∀ ρA a, envRel r ρ ρA → ERel r.H.length φ sz ρA a → ∀ Q : Exit → Act → World → Prop,
        (∀ r' φ' ρA' a' w', LeF m r r' → SRel r' S' → Step 0 φ r.H w φ' r'.H w' → envRel r' ρ' ρA' → ERel r'.H.length φ' sz ρA' a' → Q .normal a' w') → wpOps P ops Q l a w
    | .code sz c ρ, .exit e ρ' => m ≤ r.n → ∀ ρA a, envRel r ρ ρA → ERel r.H.length φ sz ρA a → ∀ Q : Exit → Act → World → Prop,
        (∀ r' φ' ρA' a' w', LeF m r r' → SRel r' S' → Step 0 φ r.H w φ' r'.H w' → envRel r' ρ' ρA' → ERel r'.H.length φ' sz ρA' a' → Q (toExit e) a' w') → wpL P c Q a w
    | .call f args, .val d => ∀ vs args', DL r args vs → LRel r.H.length φ vs args'.toList → ∀ R : Ending → World → Prop,
        (∀ r' u v' φ' w', r.Le r' → SRel r' S' → Step 0 φ r.H w φ' r'.H w' → DRel r' d u → VRel r'.H.length φ' u v' → R (.returned v') w') → Calls P f args' w R
    | _, _ => True

theorem yielded_rel {r ρ ρA} (he : envRel r ρ ρA) (ops : Array Oper) (j : Nat) {b : Bool} (h : yieldedD ops ρ j = some b) : yieldedA ops ρA j = some b := by
  unfold yieldedD at h
  unfold yieldedA
  split at h
  · rename_i t ht
    have := he t
    split at h
    · rename_i c hc
      cases h
      rw [hc] at this
      generalize hv : ρA t = v at this
      cases this
      simp only [ht, hv]
    · cases h
  · cases h

theorem wanted_rel {r ρ ρA} (he : envRel r ρ ρA) {ops : Array Oper} {o : Oper} (h : Region.wanted o (yieldedD ops ρ) = true) : Region.wanted o (yieldedA ops ρA) = true := by
  unfold Region.wanted at h ⊢
  split at h
  · rename_i hg; simp
  · rename_i g want hg
    have : yieldedD ops ρ g = some want := by simpa using h
    rw [yielded_rel he ops g this]
    simp
theorem yieldS_rel {r ρ ρA} (he : envRel r ρ ρA) (ops : Array Oper) (j : Nat) {b : Option Bool} (h : yieldS ops ρ j = some b) : yieldedA ops ρA j = b := by
  unfold yieldS at h
  unfold yieldedA
  split at h
  · rename_i t ht
    have := he t
    split at h
    · rename_i c hc
      cases h
      rw [hc] at this
      generalize hv : ρA t = v at this
      cases this
      simp only [ht, hv]
    · rename_i hc
      cases h
      rw [hc] at this
      generalize hv : ρA t = v at this
      cases this
      simp only [ht, hv]
    · cases h
  · cases h
theorem unwanted_rel {r ρ ρA} (he : envRel r ρ ρA) {ops : Array Oper} {o : Oper} {g : Nat × Bool} {b : Option Bool} (hg : o.guard = some g) (hy : yieldS ops ρ g.1 = some b) (hb : (b == some g.2) = false) : Region.wanted o (yieldedA ops ρA) = false := by
  obtain ⟨g, want⟩ := g
  unfold Region.wanted
  rw [hg]
  simp only
  rw [yieldS_rel he ops g hy]
  exact hb

theorem target_rel {r ρ ρA} (he : envRel r ρ ρA) {op : Op} {f : FuncId} {args : List D} (h : targetD ρ op = some (f, args)) : ∃ vs, targetA ρA op = some (f, vs) ∧ DL r args vs := by
  unfold targetD at h
  split at h
  · rename_i fo argo ato
    have hf := eval_rel he fo
    split at h
    · rename_i g first captured hg
      cases h
      rw [hg] at hf
      generalize hv : evalA ρA fo = v at hf
      cases hf with
      | fn _ _ _ ys ds h1 h2 h3 h4 =>
        refine ⟨_, by simp only [targetA, hv]; rfl, ?_⟩
        have a1 : DL r first ys.toList := ⟨by simpa using h1, fun i a b => by have := h2 i a (by simpa using b); rwa [← Array.getElem_toList] at this⟩
        have a2 : DL r captured ds.toList := ⟨by simpa using h3, fun i a b => by have := h4 i a (by simpa using b); rwa [← Array.getElem_toList] at this⟩
        exact (a1.append (evals_rel he argo.toList)).append a2
    · cases h
  · cases h

theorem SRel.take {r : Rl} {S : Mem} (hS : SRel r S) {n : Nat} (hn : n ≤ S.length) (hl : memLow n S) : SRel ⟨n, r.ψ, r.k, r.H⟩ (S.take n) := by
  have hget : ∀ {i : Nat} {x : Ob}, (S.take n)[i]? = some x → i < n ∧ S[i]? = some x := by
    intro i x h
    rw [List.getElem?_take] at h
    split at h
    · exact ⟨by assumption, h⟩
    · cases h
  refine ⟨by simp [Nat.min_eq_left hn], ?_, ?_, ?_⟩
  · intro o cells ho
    obtain ⟨h1, h2⟩ := hget (objAt_some ho)
    have h3 : objAt S o = some cells := by simp [objAt, h2]
    obtain ⟨b, g, w, l, kk, dl⟩ := hS.obj o cells h3
    refine ⟨b, g, w, l, kk, dl.1, fun i a c => ?_⟩
    exact hl o cells h1 h3 _ (List.getElem_mem _) r _ (by rw [hS.n]; exact hn) (dl.2 i a c)
  · intro id hid
    obtain ⟨h1, h2⟩ := hget hid
    exact hS.own id h2
  · intro i j hij ⟨x, hx, hxd⟩ ⟨y, hy, hyd⟩
    exact hS.inj i j hij ⟨x, (hget hx).2, hxd⟩ ⟨y, (hget hy).2, hyd⟩
end Go.DM

/- A machine over Go's operations in which slices are values: its soundness. -/
namespace Go.DM
open Go Go.AM

theorem result_rel {P : Program} {r : Rl} {S : Mem} (hS : SRel r S) {ρ ρA} (he : envRel r ρ ρA) {x : ResultVar} {d : D} (h : resultD P ρ S x = some d) : ∃ v, resultA P ρA r.H x = some v ∧ DRel r d v := by
  cases x with
  | tmp t => simp only [resultD, Option.some.injEq] at h; subst h; exact ⟨_, rfl, he t⟩
  | cell a t => exact load_rel hS (he a) h

theorem resultL_rel {P : Program} {r : Rl} {S : Mem} (hS : SRel r S) {ρ ρA} (he : envRel r ρ ρA) : ∀ {xs : List ResultVar} {ds : List D}, resultsL P ρ S xs = some ds → ∃ vs, xs.mapM (resultA P ρA r.H) = some vs ∧ DL r ds vs
  | [], ds, h => by simp [resultsL] at h; subst h; exact ⟨[], by simp, .nil⟩
  | x :: xs, ds, h => by
    simp only [resultsL] at h
    split at h
    · rename_i d ds' hd hds
      cases h
      obtain ⟨v, hv, dv⟩ := result_rel hS he hd
      obtain ⟨vs, hvs, dvs⟩ := resultL_rel hS he hds
      exact ⟨v :: vs, by simp [List.mapM_cons, hv, hvs], .cons dv dvs⟩
    · cases h

theorem results_rel {P : Program} {r : Rl} {S : Mem} (hS : SRel r S) {ρ ρA} (he : envRel r ρ ρA) {fn : Func} {d : D} (h : resultsD P fn ρ S = some d) : ∃ v, resultsA P fn ρA r.H = some v ∧ DRel r d v := by
  unfold resultsD at h
  unfold resultsA
  split at h
  · rename_i x hx
    obtain ⟨v, hv, dv⟩ := result_rel hS he h
    exact ⟨v, by rw [hx]; exact hv, dv⟩
  · rename_i rs hne
    simp only [Option.map_eq_some_iff] at h
    obtain ⟨ds, hds, rfl⟩ := h
    obtain ⟨vs, hvs, dvs⟩ := resultL_rel hS he hds
    refine ⟨.tuple vs.toArray, ?_, .tup _ _ (by simpa using dvs.1) fun i a b => by simp only [List.getElem_toArray]; exact dvs.2 i a (by simpa using b)⟩
    split
    · rename_i x hx; exact absurd hx (hne x)
    · simp [hvs]

theorem init_envRel {r : Rl} {args : List D} {vs : List Value} (h : DL r args vs) : envRel r (initD args) (initEnv vs) := by
  intro t
  simp only [initD, initEnv, List.getD_eq_getElem?_getD]
  rcases Nat.lt_or_ge t args.length with ht | ht
  · have ht' : t < vs.length := h.1 ▸ ht
    simp only [List.getElem?_eq_getElem ht, List.getElem?_eq_getElem ht', Option.getD_some]
    exact h.2 t ht ht'
  · rw [List.getElem?_eq_none ht, List.getElem?_eq_none (h.1 ▸ ht)]
    exact .undef

theorem BigD.sound {P : Program} {A : Beside} (hA : Kept A) {orc : DOracle} (horc : DOrcSound P A orc) {m : Nat} {j : DJob} {S : Mem} {out : DOut} {S' : Mem} (h : BigD P orc m j S out S') : DMotive P A m j S out S' := by
  induction h with
  | opsNil => intro r φ w hS hs hm ρA a hr he Q hq; exact hq r φ ρA a w (.refl hm) hS (.refl hs.1) hr he
  | @opsSkip m sz ops i l ρ S out S' o g b ho hg hy hw hd h ih =>
    intro r φ w hS hs
    cases out with
    | env ρ' =>
      intro hm ρA a hr he Q hq
      simp only [wpOps, ho]
      rw [wanted_eq he, unwanted_rel hr hg hy hw]
      simp only [Bool.false_eq_true, if_false]
      exact ih r φ w hS hs hm _ _ (hr.put .undef o.dst) (he.put hd .undef) Q hq
    | _ => trivial
  | @opsOp m sz ops i l ρ S S1 v out S' o ho hw hd hc hop h ih =>
    intro r φ w hS hs
    cases out with
    | env ρ' =>
      intro hm ρA a hr he Q hq
      simp only [wpOps, ho]
      rw [wanted_eq he, wanted_rel hr hw]
      simp only [if_true]
      left
      obtain ⟨u, H1, hopA, r1, hfr, le, sr, dr⟩ := opM_rel hS hr hop
      obtain ⟨v', w1, φ1, rr, hrun, hrr, hst, hv⟩ := opA_sound hs.1 he hc hopA
      have hst := hst.trans (hfr.step hst.sim)
      rw [← hfr.len] at hv
      have he1 : ERel r1.H.length φ1 sz (put ρA o.dst u) (a.put o.dst v') := (he.mono hst.len hst.keep).put hd hv
      have hih := ih r1 φ1 w1 sr ⟨hst.sim, hA _ _ _ _ _ _ hs.2 hst⟩ (Nat.le_trans hm le.n) _ _ ((hr.mono le).put dr o.dst) he1 Q (fun r' φ' ρA' a' w' lf sr' hst' hr' he' => hq r' φ' ρA' a' w' ((LeF.of le hm).trans lf) sr' (hst.trans hst') hr' he')
      unfold Oper.wp
      rw [hrun]
      rcases hrr with rfl | ⟨rfl, rfl⟩
      · exact hih
      · exact hih
    | _ => trivial
  | @opsCall m sz ops i l ρ S S1 v out S' o f args fn ho hw hd hc ht hf hn hb hcall h ihc ih =>
    intro r φ w hS hs
    cases out with
    | env ρ' =>
      intro hm ρA a hr he Q hq
      simp only [wpOps, ho]
      rw [wanted_eq he, wanted_rel hr hw]
      simp only [if_true]
      left
      obtain ⟨vs, htA, dvs⟩ := target_rel hr ht
      unfold targetA at htA
      unfold Oper.wp execOp
      split at htA
      · rename_i fo argo ato hop
        rw [hop] at hc
        simp only [hop]
        have hall := List.all_eq_true.1 hc
        have hfo := he.eval (hall fo (by simp [Op.operands, Call.operands]))
        split at htA
        · rename_i g first captured hg
          simp only [Option.some.injEq, Prod.mk.injEq] at htA
          obtain ⟨rfl, rfl⟩ := htA
          rw [hg] at hfo
          generalize hfe : a.eval fo = f' at hfo
          cases hfo with
          | func _ xs ys cs ds h1 h2 h3 h4 =>
            have hargs := args_two he (args := argo) (List.all_eq_true.2 fun y hy => hall y (by simp [Op.operands, Call.operands]; simp at hy; exact .inr hy))
            have hrun : (do let d ← resolve a.eval { callee := .value fo, args := argo, argTypes := ato } o.type; invoke d.target d.args : Sem Next).run P w = .ok (.enter g (ys ++ argo.map a.eval ++ ds)) w := by
              have hb' : fn.body ≠ none := by intro h; simp [h] at hb
              simp [resolve, hfe, Deferred.ofValue, invoke, callFunc, hf, hn, hb']
            rw [hrun]
            have hl : LRel r.H.length φ (first.toList ++ argo.toList.map (evalA ρA) ++ captured.toList) (ys ++ argo.map a.eval ++ ds).toList := by
              simp only [Array.toList_append]
              exact ((LRel.of_arrays h1 h2).append hargs).append (LRel.of_arrays h3 h4)
            refine ihc r φ w hS hs _ _ dvs hl _ (fun r1 u v' φ1 w1 le sr hst dr hv => ?_)
            exact ih r1 φ1 w1 sr ⟨hst.sim, hA _ _ _ _ _ _ hs.2 hst⟩ (Nat.le_trans hm le.n) _ _ ((hr.mono le).put dr o.dst) ((he.mono hst.len hst.keep).put hd hv) Q (fun r' φ' ρA' a' w' lf sr' hst' hr' he' => hq r' φ' ρA' a' w' ((LeF.of le hm).trans lf) sr' (hst.trans hst') hr' he')
        · cases htA
      · cases htA
    | _ => trivial
  | skip => intro r φ w hS hs hm ρA a hr he Q hq; exact wp_skip (hq r φ ρA a w (.refl hm) hS (.refl hs.1) hr he)
  | label => intro r φ w hS hs hm ρA a hr he Q hq; exact wp_label (hq r φ ρA a w (.refl hm) hS (.refl hs.1) hr he)
  | exit => intro r φ w hS hs hm ρA a hr he Q hq; exact wp_exit (hq r φ ρA a w (.refl hm) hS (.refl hs.1) hr he)
  | ret => intro r φ w hS hs hm ρA a hr he Q hq; exact wp_ret (hq r φ ρA a w (.refl hm) hS (.refl hs.1) hr he)
  | @seqN m sz c d ρ ρ1 S S1 out S' h1 h2 ih1 ih2 =>
    intro r φ w hS hs
    cases out with
    | exit e ρ' =>
      intro hm ρA a hr he Q hq
      refine wp_seq (wpL.wp (ih1 r φ w hS hs hm ρA a hr he _ fun r1 φ1 ρA1 a1 w1 lf sr hst hr1 he1 => ?_))
      exact wpL.wp (ih2 r1 φ1 w1 sr ⟨hst.sim, hA _ _ _ _ _ _ hs.2 hst⟩ lf.n ρA1 a1 hr1 he1 Q fun r' φ' ρA' a' w' lf' sr' hst' hr' he' => hq r' φ' ρA' a' w' (lf.trans lf') sr' (hst.trans hst') hr' he')
    | _ => trivial
  | @seqE m sz c d ρ ρ1 S S1 e h1 he1 ih1 =>
    intro r φ w hS hs hm ρA a hr he Q hq
    refine wp_seq (wpL.wp (ih1 r φ w hS hs hm ρA a hr he _ fun r1 φ1 ρA1 a1 w1 lf sr hst hr1 he2 => ?_))
    cases e with
    | normal => exact absurd rfl he1
    | exit id => exact hq r1 φ1 ρA1 a1 w1 lf sr hst hr1 he2
    | ret => exact hq r1 φ1 ρA1 a1 w1 lf sr hst hr1 he2
  | @cond m sz c x y ρ S out S' t hk hc h ih =>
    intro r φ w hS hs
    cases out with
    | exit e ρ' =>
      intro hm ρA a hr he Q hq
      have hcr := he.eval hk
      have hcd := eval_rel hr c
      rw [hc] at hcd
      generalize hca : evalA ρA c = ca at hcd hcr
      cases hcd
      generalize hce : a.eval c = c' at hcr
      cases hcr
      exact wp_cond hce (wpL.wp (ih r φ w hS hs hm ρA a hr he Q hq))
    | _ => trivial
  | blockN h ih =>
    intro r φ w hS hs hm ρA a hr he Q hq
    exact wp_block (wpL.wp (ih r φ w hS hs hm ρA a hr he _ fun r1 φ1 ρA1 a1 w1 lf sr hst hr1 he1 => hq r1 φ1 ρA1 a1 w1 lf sr hst hr1 he1))
  | blockX h ih =>
    intro r φ w hS hs hm ρA a hr he Q hq
    exact wp_block (wpL.wp (ih r φ w hS hs hm ρA a hr he _ fun r1 φ1 ρA1 a1 w1 lf sr hst hr1 he1 => by simp only [toExit, Exit.inBlock, if_true]; exact hq r1 φ1 ρA1 a1 w1 lf sr hst hr1 he1))
  | @blockE m sz id c ρ ρ1 S S1 e h h1 h2 ih =>
    intro r φ w hS hs hm ρA a hr he Q hq
    refine wp_block (wpL.wp (ih r φ w hS hs hm ρA a hr he _ fun r1 φ1 ρA1 a1 w1 lf sr hst hr1 he1 => ?_))
    cases e with
    | normal => exact absurd rfl h1
    | exit id' =>
      have : id' ≠ id := fun he => h2 (by rw [he])
      simp only [toExit, Exit.inBlock, this, if_false]
      exact hq r1 φ1 ρA1 a1 w1 lf sr hst hr1 he1
    | ret => exact hq r1 φ1 ρA1 a1 w1 lf sr hst hr1 he1
  | @loopN m sz c ρ ρ1 S S1 out S' h1 h2 ih1 ih2 =>
    intro r φ w hS hs
    cases out with
    | exit e ρ' =>
      intro hm ρA a hr he Q hq
      refine InLoop.of (wpL.wp (ih1 r φ w hS hs hm ρA a hr he _ fun r1 φ1 ρA1 a1 w1 lf sr hst hr1 he1 => ?_))
      exact ih2 r1 φ1 w1 sr ⟨hst.sim, hA _ _ _ _ _ _ hs.2 hst⟩ lf.n ρA1 a1 hr1 he1 Q fun r' φ' ρA' a' w' lf' sr' hst' hr' he' => hq r' φ' ρA' a' w' (lf.trans lf') sr' (hst.trans hst') hr' he'
    | _ => trivial
  | @loopE m sz c ρ ρ1 S S1 e h1 he1 ih1 =>
    intro r φ w hS hs hm ρA a hr he Q hq
    refine InLoop.of (wpL.wp (ih1 r φ w hS hs hm ρA a hr he _ fun r1 φ1 ρA1 a1 w1 lf sr hst hr1 he2 => ?_))
    cases e with
    | normal => exact absurd rfl he1
    | exit id => exact hq r1 φ1 ρA1 a1 w1 lf sr hst hr1 he2
    | ret => exact hq r1 φ1 ρA1 a1 w1 lf sr hst hr1 he2
  | region h ih =>
    intro r φ w hS hs hm ρA a hr he Q hq
    exact wp_region (ih r φ w hS hs hm ρA a hr he Q hq)
  | @regionD m sz id ops ρ ρ1 S S1 hmx h ih =>
    intro r φ w hS hs hm ρA a hr he Q hq
    have hd : Step 0 φ r.H w φ r.H { w with drawn := w.drawn + 1 } := .draw hs.1 rfl rfl rfl rfl
    refine wp_region_draw fun t => ?_
    simp only [Region.schedule, hmx, Bool.true_or, if_true]
    exact ih t r φ { w with drawn := w.drawn + 1 } hS ⟨hd.sim, hA _ _ _ _ _ _ hs.2 hd⟩ hm ρA a hr he Q fun r' φ' ρA' a' w' lf sr hst hr' he' => hq r' φ' ρA' a' w' lf sr (hd.trans hst) hr' he'
  | @trim m sz c ρ ρ' S n out S' hmn hn hw hl h ih =>
    intro r φ w hS hs
    cases out with
    | exit e ρ1 =>
      intro hm ρA a hr he Q hq
      have hnr : n ≤ r.n := by rw [hS.n]; exact hn
      exact ih ⟨n, r.ψ, r.k, r.H⟩ φ w (hS.take hn hl) hs hmn ρA a (fun t => hw t r _ hnr (hr t)) he Q fun r' φ' ρA' a' w' lf sr hst hr' he' => hq r' φ' ρA' a' w' ⟨lf.n, lf.ψ, lf.len, lf.k, lf.sz⟩ sr hst hr' he'
    | _ => trivial
  | @forget m sz c ρ ρ' S out S' hw h ih =>
    intro r φ w hS hs
    cases out with
    | exit e ρ1 =>
      intro hm ρA a hr he Q hq
      exact ih r φ w hS hs hm ρA a (fun t => hw t r _ (hr t)) he Q hq
    | _ => trivial
  | @call m f args fn c e ρ S S' v hf hb ha h he hv ih =>
    intro r φ w hS hs vs args' dvs hargs R hR
    have hie := init_rel hargs (by rw [← dvs.1]; exact ha)
    refine calls_of_wp hf hb (wpL.wp (ih r φ w hS hs (by rw [hS.n]; exact Nat.le_refl _) _ _ (init_envRel dvs) hie _ fun r1 φ1 ρA1 a1 w1 lf sr hst hr1 he1 => ?_))
    obtain ⟨u, hu, du⟩ := results_rel sr hr1 hv
    obtain ⟨v', hrun, hvr⟩ := run_results hst.sim he1 hu
    have le : r.Le r1 := by rw [← hS.n] at lf; exact lf.le
    have : a1.defers = [] ∧ ∃ v, (results fn a1.tmps).run P w1 = .ok v w1 ∧ R (.returned v) w1 := ⟨he1.defers, v', hrun, hR r1 u v' φ1 w1 le sr hst du hvr⟩
    rcases he with rfl | rfl
    · exact this
    · exact this
  | @weak m f args args2 S S1 v h hl hw ih =>
    intro r φ w hS hs vs args' dvs hargs R hR
    refine ih r φ w hS hs vs args' ⟨by rw [← hl]; exact dvs.1, fun i a b => ?_⟩ hargs R hR
    exact hw i (by omega) a r _ (dvs.2 i (by omega) b)
  | @either m f args args1 args2 S S1 v h1 h2 hc ih1 ih2 =>
    intro r φ w hS hs vs args' dvs hargs R hR
    rcases hc r vs dvs with h | h
    · exact ih1 r φ w hS hs vs args' h hargs R hR
    · exact ih2 r φ w hS hs vs args' h hargs R hR
  | @orc m f args S v S' h =>
    intro r φ w hS hs vs args' dvs hargs R hR
    refine (horc f args S v S' h r φ w hS hs vs args' dvs hargs).mono fun e w' he => ?_
    obtain ⟨r', u, v', φ', rfl, le, hsr, hst, du, hv⟩ := he
    exact hR r' u v' φ' w' le hsr hst du hv
  | @keep m f args S S1 S2 d d' F ι h hl hι hinj hF hdis hobj hown hv0 ih =>
    intro r φ w hS hs vs args' dvs hargs R hR
    refine ih r φ w hS hs vs args' dvs hargs R fun r1 u v' φ1 w1 le sr hst du hv => ?_
    refine hR ⟨S2.length, fun i => r1.ψ (ι i), fun h => r1.k h || F.any (fun o => r1.ψ o == h), r1.H⟩ u v' φ1 w1 ⟨by rw [hS.n]; exact hl, fun i hi => ?_, le.len, fun h b hk hg => ?_, le.sz⟩ ⟨rfl, ?_, ?_, ?_⟩ hst (hv0 r1 u sr du) hv
    · rw [hS.n] at hi
      show r1.ψ (ι i) = _
      rw [hι i hi]
      exact le.ψ i (by rw [hS.n]; exact hi)
    · obtain ⟨k1, k2⟩ := le.k h b hk hg
      exact ⟨by simp [k1], k2⟩
    · intro o cells ho
      have hex : ∃ c, objAt S1 (ι o) = some c ∧ c.length = cells.length ∧ ∀ j (h : j < c.length) (h' : j < cells.length) (v : Value), DRel r1 c[j] v → DRel ⟨S2.length, fun i => r1.ψ (ι i), fun h => r1.k h || F.any (fun o => r1.ψ o == h), r1.H⟩ cells[j] v := by
        rcases hobj o cells ho with ⟨h1, h2, h3⟩ | ⟨c, h1, h2, h3⟩
        · refine ⟨cells, by rw [hι o h1]; exact h3, rfl, fun j hj _ v hv => ?_⟩
          obtain ⟨b, _, _, _, _, dl⟩ := hS.obj o cells h2
          have hlow := (dl.2 j hj (dl.1 ▸ hj)).low
          rw [hS.n] at hlow
          exact hlow.rename hl (fun i hi => by show r1.ψ (ι i) = _; rw [hι i hi]) (fun h hk => by simp [hk]) hv
        · exact ⟨c, h1, h2, fun j a b v hv => h3 j a b r1 v sr hv⟩
      obtain ⟨c, hc, hcl, hcw⟩ := hex
      obtain ⟨b, g, w', l, kk, dl⟩ := sr.obj _ _ hc
      have ho2 : o < S2.length := (List.getElem?_eq_some_iff.1 (objAt_some ho)).1
      refine ⟨b, g, w', l, ?_, ?_⟩
      · simp only [kk, Bool.false_or, List.any_eq_false, beq_iff_eq]
        intro p hp e
        obtain ⟨pc, hpc⟩ := hF p hp
        have hne : p ≠ ι o := fun e => hdis o ho2 (e ▸ hp)
        exact sr.inj p (ι o) hne ⟨_, objAt_some hpc, by simp⟩ ⟨_, objAt_some hc, by simp⟩ e
      · refine ⟨hcl.symm.trans dl.1, fun i h1 h2 => ?_⟩
        have h3 : i < c.length := by omega
        exact hcw i h3 h1 _ (dl.2 i h3 h2)
    · intro id hid
      obtain ⟨b, g, w', kk⟩ := sr.own _ (hown id hid)
      exact ⟨b, g, w', by simp [kk]⟩
    · intro i j hij ⟨x, hx, hxd⟩ ⟨y, hy, hyd⟩
      have live : ∀ {i : Nat} {x : Ob}, S2[i]? = some x → x ≠ .dead → ∃ x, S1[ι i]? = some x ∧ x ≠ .dead := by
        intro i x hx hxd
        cases x with
        | obj cells =>
          rcases hobj i cells (by simp [objAt, hx]) with ⟨h1, h2, h3⟩ | ⟨c, hc, _⟩
          · exact ⟨_, objAt_some (by rw [hι i h1]; exact h3), by simp⟩
          · exact ⟨_, objAt_some hc, by simp⟩
        | own => exact ⟨_, hown i hx, by simp⟩
        | dead => exact absurd rfl hxd
      refine sr.inj (ι i) (ι j) (fun e => hij ?_) (live hx hxd) (live hy hyd)
      exact hinj i j (List.getElem?_eq_some_iff.1 hx).1 (List.getElem?_eq_some_iff.1 hy).1 e
  | @drop m f args S S1 d d' h hl hw ho ih =>
    intro r φ w hS hs vs args' dvs hargs R hR
    refine ih r φ w hS hs vs args' dvs hargs R fun r1 u v' φ1 w1 le sr hst du hv => ?_
    have hn : S.length ≤ r1.n := by rw [← hS.n]; exact le.n
    have ho : memLow S.length S1 := fun o cells h1 h2 c hc r' v' _ hr' => by
      rcases ho o cells h1 h2 with h3 | h3
      · obtain ⟨b, _, _, _, _, dl⟩ := hS.obj o cells h3
        obtain ⟨i, hi, rfl⟩ := List.mem_iff_getElem.1 hc
        have := (dl.2 i hi (dl.1 ▸ hi)).low
        rw [hS.n] at this
        exact this.lower hr'
      · exact (h3 c hc).lower hr'
    refine hR ⟨S.length, r1.ψ, r1.k, r1.H⟩ u v' φ1 w1 ⟨by rw [hS.n]; exact Nat.le_refl _, le.ψ, le.len, le.k, le.sz⟩ (sr.take hl ho) hst (hw r1 u hn du) hv
end Go.DM

/- An abstract machine over Go's operations: statements whose order is open. -/
namespace Go.DM
open Go Go.AM

/-- One operation of a region, in an environment and a memory. -/
def OpStepD (P : Program) (orc : DOracle) (fl sz : Nat) (ops : Array Oper) (i : Nat) (ρ : DEnv) (H : Mem) (v : D) (H' : Mem) : Prop :=
  ∃ o, ops[i]? = some o ∧ okDst sz o.dst ∧
    ((∃ g b, o.guard = some g ∧ yieldS ops ρ g.1 = some b ∧ (b == some g.2) = false ∧ v = dUndef ∧ H' = H) ∨
     (Region.wanted o (yieldedD ops ρ) = true ∧ o.op.operands.toList.all okOperand = true ∧
      (opM P ρ o.op H v H' ∨
       ∃ f args fn, targetD ρ o.op = some (f, args) ∧ P.funcs[f]? = some fn ∧ fn.name ≠ "runtime.NumGoroutine" ∧ fn.body.isNone = false ∧ BigD P orc 0 (.call f args) H (.val v) H')))

theorem OpStepD.cons {P orc fl sz ops i ρ H v H1 l out H'} (h : OpStepD P orc fl sz ops i ρ H v H1) (k : BigD P orc fl (.ops sz ops l (putD ρ (dstOf ops i) v)) H1 out H') :
    BigD P orc fl (.ops sz ops (i :: l) ρ) H out H' := by
  obtain ⟨o, ho, hd, h⟩ := h
  have e : dstOf ops i = o.dst := by simp [dstOf, ho]
  rw [e] at k
  rcases h with ⟨g, b, hg, hy, hb, rfl, rfl⟩ | ⟨hw, hc, h | ⟨f, args, fn, ht, hf, hn, hb, hcall⟩⟩
  · exact .opsSkip ho hg hy hb hd k
  · exact .opsOp ho hw hd hc h k
  · exact .opsCall ho hw hd hc ht hf hn hb hcall k

theorem evalD_congr {ρ ρ' : DEnv} {x : Operand} (h : ∀ t, x = .tmp t → ρ t = ρ' t) : evalD ρ x = evalD ρ' x := by
  cases x with
  | tmp t => exact h t rfl
  | _ => rfl

theorem opD_congr {P : Program} {ρ ρ' : DEnv} {o : Oper} {H : Mem} (h : ∀ x ∈ o.op.operands, evalD ρ x = evalD ρ' x) : opD P ρ o.op H = opD P ρ' o.op H := by
  obtain ⟨dst, op, type, pos, after, guard⟩ := o
  have pairs : ∀ ps : List (Nat × Operand), (∀ p ∈ ps, evalD ρ p.2 = evalD ρ' p.2) → (ps.map fun (i, x) => (i, evalD ρ x)) = (ps.map fun (i, x) => (i, evalD ρ' x)) := fun ps hp =>
    List.map_congr_left fun p hm => by obtain ⟨i, x⟩ := p; simp only [hp (i, x) hm]
  cases op <;> simp only [Op.operands] at h <;> simp only [opD]
  case build t ps => rw [pairs ps.toList fun p hp => h p.2 (by simp; exact ⟨p.1, by simpa using hp⟩)]
  case buildSlice t n ps => rw [pairs ps.toList fun p hp => h p.2 (by simp; exact ⟨p.1, by simpa using hp⟩)]
  case makeFunc fn first captured =>
    rw [List.map_congr_left (l := first.toList) fun x hx => h x (by simp at hx; simp [hx]), List.map_congr_left (l := captured.toList) fun x hx => h x (by simp at hx; simp [hx])]
  case call c =>
    obtain ⟨callee, args, at_⟩ := c
    cases callee with
    | builtin b =>
      simp only
      rw [List.map_congr_left (l := args.toList) fun x hx => h x (by simp [Call.operands]; simpa using hx)]
    | _ => rfl
  case slice t x lo hi mx => cases lo <;> cases hi <;> cases mx <;> simp_all
  all_goals (first | rfl | (simp_all; done))

theorem opM_congr {P : Program} {ρ ρ' : DEnv} {o : Oper} {H H' : Mem} {v : D} (h : ∀ x ∈ o.op.operands, evalD ρ x = evalD ρ' x) : opM P ρ o.op H v H' = opM P ρ' o.op H v H' := by
  unfold opM
  rw [opD_congr h]
theorem targetD_congr {ρ ρ' : DEnv} {o : Oper} (h : ∀ x ∈ o.op.operands, evalD ρ x = evalD ρ' x) : targetD ρ o.op = targetD ρ' o.op := by
  obtain ⟨dst, op, type, pos, after, guard⟩ := o
  cases op <;> simp only [targetD]
  rename_i c
  obtain ⟨callee, args, at_⟩ := c
  cases callee with
  | value f =>
    simp only [Op.operands, Call.operands] at h
    simp only
    rw [h f (by simp), List.map_congr_left (l := args.toList) fun x hx => h x (by simp; exact .inr (by simpa using hx))]
  | _ => rfl

theorem yielded_congr {ops : Array Oper} {ρ ρ' : DEnv} {o : Oper} (h : ∀ t ∈ o.looksAt ops, ρ t = ρ' t) {g : Nat × Bool} (hg : o.guard = some g) : yieldedD ops ρ g.1 = yieldedD ops ρ' g.1 := by
  unfold yieldedD
  cases ht : (ops[g.1]?).bind (·.dst) with
  | none => rfl
  | some t => simp only; rw [h t (by simp [Oper.looksAt, hg, ht])]
theorem yieldS_congr {ops : Array Oper} {ρ ρ' : DEnv} {o : Oper} (h : ∀ t ∈ o.looksAt ops, ρ t = ρ' t) {g : Nat × Bool} (hg : o.guard = some g) : yieldS ops ρ g.1 = yieldS ops ρ' g.1 := by
  unfold yieldS
  cases ht : (ops[g.1]?).bind (·.dst) with
  | none => rfl
  | some t => simp only; rw [h t (by simp [Oper.looksAt, hg, ht])]
theorem wanted_congr {ops : Array Oper} {ρ ρ' : DEnv} {o : Oper} (h : ∀ t ∈ o.looksAt ops, ρ t = ρ' t) : Region.wanted o (yieldedD ops ρ) = Region.wanted o (yieldedD ops ρ') := by
  unfold Region.wanted
  cases hg : o.guard with
  | none => rfl
  | some gw => simp only [yielded_congr h hg]

theorem OpStepD.congr {P orc fl sz ops i ρ ρ' H v H'} (h : OpStepD P orc fl sz ops i ρ H v H') (ha : ∀ o, ops[i]? = some o → ∀ t ∈ o.looksAt ops, ρ t = ρ' t) : OpStepD P orc fl sz ops i ρ' H v H' := by
  obtain ⟨o, ho, hd, h⟩ := h
  have hl := ha o ho
  have he : ∀ x ∈ o.op.operands, evalD ρ x = evalD ρ' x := fun x hx => evalD_congr fun t hxt => hl t (by
    subst hxt
    exact List.mem_append_left _ (List.mem_filterMap.2 ⟨.tmp t, by simpa using hx, rfl⟩))
  refine ⟨o, ho, hd, ?_⟩
  rw [← wanted_congr hl, ← opM_congr he, ← targetD_congr he]
  rcases h with ⟨g, b, hg, hy, h⟩ | h
  · exact .inl ⟨g, b, hg, by rw [← yieldS_congr hl hg]; exact hy, h⟩
  · exact .inr h

def envPD (ops : Array Oper) (v : Nat → D) (ρ : DEnv) (L : Nat → Bool) : Nat → DEnv
  | 0 => ρ
  | n + 1 => if L n then putD (envPD ops v ρ L n) (dstOf ops n) (v n) else envPD ops v ρ L n

theorem putD_at {ρ : DEnv} {d : Option Tmp} {v : D} {t : Tmp} : putD ρ d v t = if d = some t then v else ρ t := by
  cases d with
  | none => simp [putD]
  | some e =>
    simp only [putD, updD, Option.some.injEq]
    by_cases h : t = e
    · simp [h]
    · have : e ≠ t := fun q => h q.symm
      simp [h, this]

structure TraceD (P : Program) (orc : DOracle) (fl sz : Nat) (ops : Array Oper) (mk : List Nat) (ρ : DEnv) (v : Nat → D) (Hs : Nat → Mem) : Prop where
  step : ∀ i, i < ops.size → OpStepD P orc fl sz ops i (envPD ops v ρ (fun _ => true) i) (Hs i) (v i) (Hs (i + 1))
  still : ∀ i, i < ops.size → i ∉ mk → Hs (i + 1) = Hs i
  robust : ∀ i, i < ops.size → i ∉ mk → ∀ q, q ≤ ops.size → (∀ m ∈ mk, ordered ops ops.size m i = true → m < q) → (∀ m ∈ mk, ordered ops ops.size i m = true → q ≤ m) →
    OpStepD P orc fl sz ops i (envPD ops v ρ (fun _ => true) i) (Hs q) (v i) (Hs q)

section
variable {P : Program} {orc : DOracle} {fl sz : Nat} {ops : Array Oper} {mk : List Nat} {ρ : DEnv} {v : Nat → D} {Hs : Nat → Mem}

theorem hs_betweenD (T : TraceD P orc fl sz ops mk ρ v Hs) {a : Nat} : ∀ b, a ≤ b → b ≤ ops.size → (∀ m, a ≤ m → m < b → m ∉ mk) → Hs b = Hs a := by
  intro b
  induction b with
  | zero => intro hab _ _; have : a = 0 := by omega
            rw [this]
  | succ b ih =>
    intro hab hb hn
    rcases Nat.lt_or_ge b a with h | h
    · have : a = b + 1 := by omega
      rw [this]
    · rw [T.still b (by omega) (hn b h (by omega)), ih h (by omega) fun m h1 h2 => hn m h1 (by omega)]

theorem drawn_goD (hok : drawnOk ops mk = true) (T : TraceD P orc fl sz ops mk ρ v Hs) : ∀ (fuel t : Nat) (listed : Array Bool) (q : Nat), listed.size = ops.size →
    (∀ j, lst listed j = true → ∀ e ∈ direct ops j, lst listed e = true) → q ≤ ops.size → (∀ m ∈ mk, m < ops.size → (lst listed m = true ↔ m < q)) →
    (List.range ops.size).countP (fun i => !lst listed i) ≤ fuel →
    BigD P orc fl (.ops sz ops (Region.linearise.go .any ops fuel t listed []) (envPD ops v ρ (lst listed) ops.size)) (Hs q) (.env (envPD ops v ρ (fun _ => true) ops.size)) (Hs ops.size) := by
  simp only [drawnOk, Bool.and_eq_true, List.all_eq_true, List.mem_range, Bool.or_eq_true, Bool.not_eq_true', decide_eq_true_eq, decide_eq_false_iff_not] at hok
  obtain ⟨⟨ok1, ok2⟩, ok3⟩ := hok
  have final : ∀ (listed : Array Bool) (q : Nat), q ≤ ops.size → (∀ m ∈ mk, m < ops.size → (lst listed m = true ↔ m < q)) → (∀ i, i < ops.size → lst listed i = true) →
      BigD P orc fl (.ops sz ops [] (envPD ops v ρ (lst listed) ops.size)) (Hs q) (.env (envPD ops v ρ (fun _ => true) ops.size)) (Hs ops.size) := by
    intro listed q hq hcut hall
    have e1 : envPD ops v ρ (lst listed) ops.size = envPD ops v ρ (fun _ => true) ops.size := by
      have : ∀ n, n ≤ ops.size → envPD ops v ρ (lst listed) n = envPD ops v ρ (fun _ => true) n := by
        intro n
        induction n with
        | zero => intro _; rfl
        | succ n ih => intro hn; simp only [envPD, hall n (by omega), ih (by omega)]
      exact this _ (Nat.le_refl _)
    have e2 : Hs ops.size = Hs q := hs_betweenD T _ hq (Nat.le_refl _) fun m h1 h2 hm => by
      have := (hcut m hm h2).1 (hall m h2)
      omega
    rw [e1, e2]
    exact .opsNil
  have ready_nil : ∀ (listed : Array Bool), listed.size = ops.size → Region.ready .any ops listed = [] → ∀ i, i < ops.size → lst listed i = true := by
    intro listed hsz hr i
    induction i using Nat.strongRecOn with
    | _ i ih =>
      intro hi
      rcases hli : lst listed i with _ | _
      · have : i ∈ Region.ready .any ops listed := (AM.mem_ready hsz).2 ⟨hi, hli, fun e he => by
          have he' := ok1 i hi e he
          exact ih e he' (by omega)⟩
        rw [hr] at this
        cases this
      · rfl
  intro fuel
  induction fuel with
  | zero =>
    intro t listed q hsz hcl hq hcut hcount
    simp only [Region.linearise.go]
    refine final listed q hq hcut fun i hi => ?_
    have : (List.range ops.size).countP (fun i => !lst listed i) = 0 := by omega
    rw [List.countP_eq_zero] at this
    simpa using this i (List.mem_range.2 hi)
  | succ fuel ih =>
    intro t listed q hsz hcl hq hcut hcount
    simp only [Region.linearise.go]
    change BigD P orc fl (.ops sz ops (match (Region.ready .any ops listed)[t % (Region.ready .any ops listed).length]? with
      | some i => Region.linearise.go .any ops fuel (t / (Region.ready .any ops listed).length) (listed.setIfInBounds i true) [i]
      | none => [].reverse) _) _ _ _
    cases hi : (Region.ready .any ops listed)[t % (Region.ready .any ops listed).length]? with
    | none =>
      have hnil : Region.ready .any ops listed = [] := by
        cases hr : Region.ready .any ops listed with
        | nil => rfl
        | cons x xs =>
          rw [hr] at hi
          have hlt : t % (x :: xs).length < (x :: xs).length := Nat.mod_lt _ (by simp)
          simp at hi
          simp at hlt
          omega
      exact final listed q hq hcut (ready_nil listed hsz hnil)
    | some j =>
      simp only []
      rw [linearise_go_acc, List.reverse_singleton, List.singleton_append]
      obtain ⟨hj, hlj, hdj⟩ := (AM.mem_ready hsz).1 (List.mem_of_getElem? hi)
      have hset : ∀ i, lst (listed.setIfInBounds j true) i = (lst listed i || decide (i = j)) := by
        intro i
        unfold lst
        by_cases hij : i = j
        · subst hij
          simp [Array.getD, hsz, hj]
        · simp [Array.getD_eq_getD_getElem?, Array.getElem?_setIfInBounds_ne (Ne.symm hij), hij]
      have before_j : ∀ i, ordered ops ops.size i j = true → lst listed i = true := fun i h => ordered_closed (L := fun i => lst listed i = true) hcl ops.size i j h hdj
      have after_j : ∀ i, ordered ops ops.size j i = true → lst listed i = false := fun i h => by
        rcases hli : lst listed i with _ | _
        · rfl
        · have := ordered_closed (L := fun i => lst listed i = true) hcl ops.size j i h (hcl i hli)
          rw [hlj] at this
          cases this
      have henv : ∀ n, n ≤ ops.size → ∀ t, envPD ops v ρ (lst (listed.setIfInBounds j true)) n t = if j < n ∧ dstOf ops j = some t then v j else envPD ops v ρ (lst listed) n t := by
        intro n
        induction n with
        | zero => intro _ t; simp [envPD]
        | succ n ihn =>
          intro hn t
          simp only [envPD, hset]
          by_cases hnj : n = j
          · subst hnj
            simp only [decide_true, Bool.or_true, if_true, hlj, Bool.false_eq_true, if_false, putD_at, Nat.lt_succ_self, true_and]
            split
            · rfl
            · rw [ihn (by omega) t]; simp
          · simp only [hnj, decide_false, Bool.or_false]
            cases hln : lst listed n with
            | false =>
              simp only [Bool.false_eq_true, if_false]
              rw [ihn (by omega) t]
              have : j < n + 1 ↔ j < n := by omega
              simp only [this]
            | true =>
              simp only [if_true, putD_at]
              by_cases hdn : dstOf ops n = some t
              · simp only [hdn, if_true]
                have : ¬ (j < n + 1 ∧ dstOf ops j = some t) := by
                  rintro ⟨h1, h2⟩
                  have hjn : j < n := by omega
                  have hcl' : clash ops j n = true := by
                    unfold clash
                    unfold dstOf at hdn h2
                    cases hoj : ops[j]? with
                    | none => simp [hoj] at h2
                    | some a =>
                      cases hon : ops[n]? with
                      | none => simp [hon] at hdn
                      | some b =>
                        simp [hoj] at h2
                        simp [hon] at hdn
                        simp [h2, hdn]
                  rcases ok2 n (by omega) j hjn with h | h
                  · rw [hcl'] at h; cases h
                  · rw [after_j n h] at hln; cases hln
                simp only [this, if_false]
              · simp only [hdn, if_false]
                rw [ihn (by omega) t]
                have : j < n + 1 ↔ j < n := by omega
                simp only [this]
      have henv' : envPD ops v ρ (lst (listed.setIfInBounds j true)) ops.size = putD (envPD ops v ρ (lst listed) ops.size) (dstOf ops j) (v j) := by
        funext t
        rw [henv _ (Nat.le_refl _) t, putD_at]
        simp [hj]
      have hagree : ∀ o, ops[j]? = some o → ∀ t ∈ o.looksAt ops, envPD ops v ρ (fun _ => true) j t = envPD ops v ρ (lst listed) ops.size t := by
        intro o ho t ht
        have key : ∀ i, i < ops.size → dstOf ops i = some t → (i < j → lst listed i = true) ∧ (j ≤ i → lst listed i = false) := by
          intro i hi' hd
          unfold dstOf at hd
          cases hoi : ops[i]? with
          | none => simp [hoi] at hd
          | some a =>
            simp [hoi] at hd
            refine ⟨fun hij => ?_, fun hij => ?_⟩
            · have hcl' : clash ops i j = true := by simp only [clash, hoi, ho, hd]; simp [ht]
              rcases ok2 j hj i hij with h | h
              · rw [hcl'] at h; cases h
              · exact before_j i h
            · rcases Nat.lt_or_ge j i with h1 | h1
              · have hcl' : clash ops j i = true := by simp only [clash, hoi, ho, hd]; simp [ht]
                rcases ok2 i hi' j h1 with h | h
                · rw [hcl'] at h; cases h
                · exact after_j i h
              · have : i = j := by omega
                rw [this]; exact hlj
        have : ∀ n, n ≤ ops.size → envPD ops v ρ (lst listed) n t = envPD ops v ρ (fun _ => true) (min n j) t := by
          intro n
          induction n with
          | zero => intro _; simp [envPD]
          | succ n ihn =>
            intro hn
            simp only [envPD]
            by_cases hd : dstOf ops n = some t
            · have hk := key n (by omega) hd
              rcases Nat.lt_or_ge n j with h1 | h1
              · have : min (n + 1) j = n + 1 := by omega
                rw [this]
                simp only [envPD, hk.1 h1, if_true, putD_at, hd]
              · have : min (n + 1) j = min n j := by omega
                rw [this, ← ihn (by omega)]
                simp [hk.2 h1]
            · have e1 : (if lst listed n = true then putD (envPD ops v ρ (lst listed) n) (dstOf ops n) (v n) else envPD ops v ρ (lst listed) n) t = envPD ops v ρ (lst listed) n t := by
                split
                · simp [putD_at, hd]
                · rfl
              rw [e1, ihn (by omega)]
              rcases Nat.lt_or_ge n j with h1 | h1
              · have a1 : min (n + 1) j = n + 1 := by omega
                have a2 : min n j = n := by omega
                rw [a1, a2]
                simp [envPD, putD_at, hd]
              · have : min (n + 1) j = min n j := by omega
                rw [this]
        rw [this _ (Nat.le_refl _), Nat.min_eq_right (by omega)]
      have hcnt : (List.range ops.size).countP (fun i => !lst (listed.setIfInBounds j true) i) ≤ fuel := by
        have h1 : (List.range ops.size).countP (fun i => !lst listed i) = (List.range ops.size).countP (fun i => !lst (listed.setIfInBounds j true) i) + (List.range ops.size).countP (fun i => decide (i = j)) := by
          have : ∀ l : List Nat, l.countP (fun i => !lst listed i) = l.countP (fun i => !lst (listed.setIfInBounds j true) i) + l.countP (fun i => decide (i = j)) := by
            intro l
            induction l with
            | nil => rfl
            | cons x l ihl =>
              simp only [List.countP_cons, hset]
              rw [ihl]
              simp only [hset]
              by_cases hx : x = j
              · subst hx; simp [hlj]; omega
              · simp [hx]; omega
          exact this _
        have h2 : 0 < (List.range ops.size).countP (fun i => decide (i = j)) := by
          rw [List.countP_pos_iff]
          exact ⟨j, List.mem_range.2 hj, by simp⟩
        omega
      have hcl' : ∀ i, lst (listed.setIfInBounds j true) i = true → ∀ e ∈ direct ops i, lst (listed.setIfInBounds j true) e = true := by
        intro i hli e he
        rw [hset] at hli ⊢
        simp only [Bool.or_eq_true, decide_eq_true_eq] at hli ⊢
        rcases hli with h | rfl
        · exact .inl (hcl i h e he)
        · exact .inl (hdj e he)
      by_cases hmj : j ∈ mk
      · have hcutj : ∀ m ∈ mk, m < ops.size → (lst listed m = true ↔ m < j) := by
          intro m hm hms
          rcases Nat.lt_trichotomy m j with h | h | h
          · refine ⟨fun _ => h, fun _ => ?_⟩
            rcases ok3 j hmj m hm with h' | h'
            · omega
            · exact before_j m h'
          · subst h
            simp [hlj]
          · refine ⟨fun hl => ?_, fun _ => by omega⟩
            rcases ok3 m hm j hmj with h' | h'
            · omega
            · rw [after_j m h'] at hl; cases hl
        have hH : Hs q = Hs j := by
          rcases Nat.le_total q j with h | h
          · exact (hs_betweenD T j h (by omega) fun m h1 h2 hm => by
              have a1 := (hcut m hm (by omega))
              have a2 := (hcutj m hm (by omega))
              have := a2.2 h2
              have := a1.1 this
              omega).symm
          · exact hs_betweenD T q h hq fun m h1 h2 hm => by
              have a1 := (hcut m hm (by omega))
              have a2 := (hcutj m hm (by omega))
              have := a1.2 h2
              have := a2.1 this
              omega
        rw [hH]
        refine OpStepD.cons ((T.step j hj).congr hagree) ?_
        rw [← henv']
        refine ih _ _ (j + 1) (by simp [hsz]) hcl' (by omega) (fun m hm hms => ?_) hcnt
        rw [hset]
        have := hcutj m hm hms
        simp only [Bool.or_eq_true, decide_eq_true_eq, this]
        omega
      · have hrob := T.robust j hj hmj q hq (fun m hm ho => by
            rcases Nat.lt_or_ge m ops.size with hms | hms
            · exact (hcut m hm hms).1 (before_j m ho)
            · have := before_j m ho
              simp [lst, Array.getD, hsz, Nat.not_lt.2 hms] at this)
          (fun m hm ho => by
            rcases Nat.lt_or_ge m ops.size with hms | hms
            · have := (hcut m hm hms)
              have h2 := after_j m ho
              rw [h2] at this
              simp at this
              exact this
            · omega)
        refine OpStepD.cons (hrob.congr hagree) ?_
        rw [← henv']
        refine ih _ _ q (by simp [hsz]) hcl' hq (fun m hm hms => ?_) hcnt
        rw [hset]
        have hne : m ≠ j := fun e => hmj (e ▸ hm)
        simp only [hne, decide_false, Bool.or_false]
        exact hcut m hm hms

theorem drawn_allD (hok : drawnOk ops mk = true) (T : TraceD P orc fl sz ops mk ρ v Hs) (t : Nat) :
    BigD P orc fl (.ops sz ops (Region.linearise .any ops t) ρ) (Hs 0) (.env (envPD ops v ρ (fun _ => true) ops.size)) (Hs ops.size) := by
  have h0 : ∀ i, lst (Array.replicate ops.size false) i = false := by
    intro i
    simp only [lst, Array.getD_eq_getD_getElem?, Array.getElem?_replicate]
    split <;> rfl
  have := drawn_goD hok T ops.size t (Array.replicate ops.size false) 0 (by simp) (fun j hj => by rw [h0] at hj; cases hj) (Nat.zero_le _) (fun m _ _ => by simp [h0]) (by
    have := List.countP_le_length (p := fun i => !lst (Array.replicate ops.size false) i) (l := List.range ops.size)
    simpa using this)
  have he : envPD ops v ρ (lst (Array.replicate ops.size false)) ops.size = ρ := by
    have : ∀ n, envPD ops v ρ (lst (Array.replicate ops.size false)) n = ρ := by
      intro n
      induction n with
      | zero => rfl
      | succ n ih => simp [envPD, h0, ih]
    exact this _
  rw [he] at this
  exact this
end

end Go.DM

/- An abstract machine over Go's operations: rules for walking through a text. -/
namespace Go.DM
open Go Go.AM

section
variable (P : Program) (orc : DOracle) (fl sz : Nat)

def WPcD (c : Code) (ρ : DEnv) (H : Mem) (Q : AExit → DEnv → Mem → Prop) : Prop := ∃ e ρ' H', BigD P orc fl (.code sz c ρ) H (.exit e ρ') H' ∧ Q e ρ' H'
def WPoD (ops : Array Oper) (l : List Nat) (ρ : DEnv) (H : Mem) (Q : DEnv → Mem → Prop) : Prop := ∃ ρ' H', BigD P orc fl (.ops sz ops l ρ) H (.env ρ') H' ∧ Q ρ' H'

/-- A call that returns so. -/
def CallD (f : FuncId) (args : List D) (H : Mem) (Q : D → Mem → Prop) : Prop := ∃ v H', BigD P orc 0 (.call f args) H (.val v) H' ∧ Q v H'

def Go : List K → AExit → DEnv → Mem → (AExit → DEnv → Mem → Prop) → Prop
  | [], e, ρ, H, Q => Q e ρ H
  | .code c :: k, .normal, ρ, H, Q => WPcD P orc fl sz c ρ H fun e ρ' H' => Go k e ρ' H' Q
  | .code _ :: k, e, ρ, H, Q => Go k e ρ H Q
  | .blk _ :: k, .normal, ρ, H, Q => Go k .normal ρ H Q
  | .blk id :: k, .exit id', ρ, H, Q => if id' = id then Go k .normal ρ H Q else Go k (.exit id') ρ H Q
  | .blk _ :: k, .ret, ρ, H, Q => Go k .ret ρ H Q
  | .lp c :: k, .normal, ρ, H, Q => WPcD P orc fl sz (.loop c) ρ H fun e ρ' H' => Go k e ρ' H' Q
  | .lp _ :: k, e, ρ, H, Q => Go k e ρ H Q

def GoO (ops : Array Oper) (l : List Nat) (k : List K) (ρ : DEnv) (H : Mem) (Q : AExit → DEnv → Mem → Prop) : Prop :=
  WPoD P orc fl sz ops l ρ H fun ρ' H' => Go P orc fl sz k .normal ρ' H' Q

def opThen (x : Option (D × Mem)) (F : D → Mem → Prop) : Prop := match x with | some (v, H) => F v H | none => False
end

section
variable {P : Program} {orc : DOracle} {fl sz : Nat} {k : List K} {ρ : DEnv} {H : Mem} {Q : AExit → DEnv → Mem → Prop}

theorem Go.ret' : ∀ (k : List K), Q .ret ρ H → Go P orc fl sz k .ret ρ H Q
  | [], h => h
  | .code _ :: k, h => Go.ret' k h
  | .blk _ :: k, h => Go.ret' k h
  | .lp _ :: k, h => Go.ret' k h

theorem Go.skip (h : Go P orc fl sz k .normal ρ H Q) : Go P orc fl sz (.code .skip :: k) .normal ρ H Q := ⟨_, _, _, .skip, h⟩
theorem Go.ret (h : Q .ret ρ H) : Go P orc fl sz (.code .ret :: k) .normal ρ H Q := ⟨_, _, _, .ret, Go.ret' k h⟩
theorem Go.exit {id : Nat} (h : Go P orc fl sz k (.exit id) ρ H Q) : Go P orc fl sz (.code (.exit id) :: k) .normal ρ H Q := ⟨_, _, _, .exit, h⟩
theorem Go.blkN {id : Nat} (h : Go P orc fl sz k .normal ρ H Q) : Go P orc fl sz (.blk id :: k) .normal ρ H Q := h
theorem Go.blkX {id : Nat} (h : Go P orc fl sz k .normal ρ H Q) : Go P orc fl sz (.blk id :: k) (.exit id) ρ H Q := by simp only [Go, if_true]; exact h
theorem Go.blkE {id id' : Nat} (hne : id' ≠ id) (h : Go P orc fl sz k (.exit id') ρ H Q) : Go P orc fl sz (.blk id :: k) (.exit id') ρ H Q := by simp only [Go, hne, if_false]; exact h
theorem Go.passX {c : Code} {id : Nat} (h : Go P orc fl sz k (.exit id) ρ H Q) : Go P orc fl sz (.code c :: k) (.exit id) ρ H Q := h
theorem Go.lpX {c : Code} {id : Nat} (h : Go P orc fl sz k (.exit id) ρ H Q) : Go P orc fl sz (.lp c :: k) (.exit id) ρ H Q := h
theorem Go.seq {c d : Code} (h : Go P orc fl sz (.code c :: .code d :: k) .normal ρ H Q) : Go P orc fl sz (.code (.seq c d) :: k) .normal ρ H Q := by
  obtain ⟨e, ρ1, H1, hb, h⟩ := h
  cases e with
  | normal =>
    obtain ⟨e2, ρ2, H2, hb2, h2⟩ := h
    exact ⟨e2, ρ2, H2, .seqN hb hb2, h2⟩
  | exit id => exact ⟨_, ρ1, H1, .seqE hb (by simp), h⟩
  | ret => exact ⟨_, ρ1, H1, .seqE hb (by simp), h⟩

theorem Go.block {id : Nat} {c : Code} (h : Go P orc fl sz (.code c :: .blk id :: k) .normal ρ H Q) : Go P orc fl sz (.code (.block id c) :: k) .normal ρ H Q := by
  obtain ⟨e, ρ1, H1, hb, h⟩ := h
  cases e with
  | normal => exact ⟨.normal, ρ1, H1, .blockN hb, h⟩
  | exit id' =>
    by_cases he : id' = id
    · subst he
      simp only [Go, if_true] at h
      exact ⟨.normal, ρ1, H1, .blockX hb, h⟩
    · simp only [Go, he, if_false] at h
      exact ⟨.exit id', ρ1, H1, .blockE hb (by simp) (by simp [he]), h⟩
  | ret => exact ⟨.ret, ρ1, H1, .blockE hb (by simp) (by simp), h⟩

theorem Go.loop {c : Code} (h : Go P orc fl sz (.code c :: .lp c :: k) .normal ρ H Q) : Go P orc fl sz (.code (.loop c) :: k) .normal ρ H Q := by
  obtain ⟨e, ρ1, H1, hb, h⟩ := h
  cases e with
  | normal =>
    obtain ⟨e2, ρ2, H2, hb2, h2⟩ := h
    exact ⟨e2, ρ2, H2, .loopN hb hb2, h2⟩
  | exit id => exact ⟨_, ρ1, H1, .loopE hb (by simp), h⟩
  | ret => exact ⟨_, ρ1, H1, .loopE hb (by simp), h⟩

theorem Go.lp {c : Code} (h : Go P orc fl sz (.code (.loop c) :: k) .normal ρ H Q) : Go P orc fl sz (.lp c :: k) .normal ρ H Q := h
theorem Go.cond {c : Operand} {x y : Code} {t : Bool} (hk : okOperand c = true) (hc : evalD ρ c = .bool t) (h : Go P orc fl sz (.code (if t then x else y) :: k) .normal ρ H Q) :
    Go P orc fl sz (.code (.cond c x y) :: k) .normal ρ H Q := by
  obtain ⟨e, ρ1, H1, hb, h⟩ := h
  exact ⟨e, ρ1, H1, .cond hk hc hb, h⟩
theorem Go.condT {t : Tmp} {x y : Code} (hc : ρ t = .bool true) (h : Go P orc fl sz (.code x :: k) .normal ρ H Q) : Go P orc fl sz (.code (.cond (.tmp t) x y) :: k) .normal ρ H Q := Go.cond rfl hc h
theorem Go.condF {t : Tmp} {x y : Code} (hc : ρ t = .bool false) (h : Go P orc fl sz (.code y :: k) .normal ρ H Q) : Go P orc fl sz (.code (.cond (.tmp t) x y) :: k) .normal ρ H Q := Go.cond rfl hc h
theorem Go.condB {t : Tmp} {x y : Code} {b : Bool} (hc : ρ t = .bool b) (h1 : b = true → Go P orc fl sz (.code x :: k) .normal ρ H Q) (h2 : b = false → Go P orc fl sz (.code y :: k) .normal ρ H Q) :
    Go P orc fl sz (.code (.cond (.tmp t) x y) :: k) .normal ρ H Q := by
  cases b
  · exact Go.condF hc (h2 rfl)
  · exact Go.condT hc (h1 rfl)

theorem Go.region {id : Nat} {ops : Array Oper} (h : GoO P orc fl sz ops (List.range ops.size) k ρ H Q) : Go P orc fl sz (.code (.region id ops false) :: k) .normal ρ H Q := by
  obtain ⟨ρ1, H1, hb, h⟩ := h
  exact ⟨.normal, ρ1, H1, .region hb, h⟩

theorem GoO.nil {ops : Array Oper} (h : Go P orc fl sz k .normal ρ H Q) : GoO P orc fl sz ops [] k ρ H Q := ⟨ρ, H, .opsNil, h⟩
theorem GoO.op {ops : Array Oper} {i : Nat} {l : List Nat} {o : Oper} (ho : ops[i]? = some o) (hd : okDst sz o.dst) (hc : o.op.operands.toList.all okOperand = true)
    (hw : Region.wanted o (yieldedD ops ρ) = true) (h : opThen (opD P ρ o.op H) fun v H1 => GoO P orc fl sz ops l k (putD ρ o.dst v) H1 Q) : GoO P orc fl sz ops (i :: l) k ρ H Q := by
  cases hop : opD P ρ o.op H with
  | none => rw [hop] at h; exact h.elim
  | some r =>
    obtain ⟨v, H1⟩ := r
    rw [hop] at h
    obtain ⟨ρ', H', hb, h⟩ := h
    exact ⟨ρ', H', .opsOp ho hw hd hc (.inl hop) hb, h⟩
theorem GoO.skip {ops : Array Oper} {i : Nat} {l : List Nat} {o : Oper} {g : Nat × Bool} {b : Option Bool} (ho : ops[i]? = some o) (hd : okDst sz o.dst)
    (hg : o.guard = some g) (hy : yieldS ops ρ g.1 = some b) (hw : (b == some g.2) = false) (h : GoO P orc fl sz ops l k (putD ρ o.dst dUndef) H Q) : GoO P orc fl sz ops (i :: l) k ρ H Q := by
  obtain ⟨ρ', H', hb, h⟩ := h
  exact ⟨ρ', H', .opsSkip ho hg hy hw hd hb, h⟩
theorem GoO.call {ops : Array Oper} {i : Nat} {l : List Nat} {o : Oper} {f : FuncId} {args : List D} {fn : Func} (ho : ops[i]? = some o) (hd : okDst sz o.dst) (hc : o.op.operands.toList.all okOperand = true)
    (hw : Region.wanted o (yieldedD ops ρ) = true) (ht : targetD ρ o.op = some (f, args)) (hf : P.funcs[f]? = some fn) (hn : fn.name ≠ "runtime.NumGoroutine") (hb : fn.body.isNone = false)
    (h : CallD P orc f args H fun v H1 => GoO P orc fl sz ops l k (putD ρ o.dst v) H1 Q) : GoO P orc fl sz ops (i :: l) k ρ H Q := by
  obtain ⟨v, H1, hcall, ρ', H', hbig, h⟩ := h
  exact ⟨ρ', H', .opsCall ho hw hd hc ht hf hn hb hcall hbig, h⟩

/-- The operations from the i-th on. -/
def GoI (P : Program) (orc : DOracle) (fl sz : Nat) (ops : Array Oper) (i : Nat) (k : List K) (ρ : DEnv) (H : Mem) (Q : AExit → DEnv → Mem → Prop) : Prop :=
  GoO P orc fl sz ops (List.range' i (ops.size - i)) k ρ H Q

theorem range_cons {n i : Nat} (h : i < n) : List.range' i (n - i) = i :: List.range' (i + 1) (n - (i + 1)) := by
  rw [show n - i = (n - (i + 1)) + 1 by omega, List.range'_succ]

theorem lt_of_get {ops : Array Oper} {i : Nat} {o : Oper} (ho : ops[i]? = some o) : i < ops.size := (Array.getElem?_eq_some_iff.1 ho).1

theorem Go.reg {id : Nat} {ops : Array Oper} (h : GoI P orc fl sz ops 0 k ρ H Q) : Go P orc fl sz (.code (.region id ops false) :: k) .normal ρ H Q := by
  refine Go.region ?_
  rw [List.range_eq_range']
  exact h
theorem GoI.op {ops : Array Oper} {i : Nat} {o : Oper} (ho : ops[i]? = some o) (hd : okDst sz o.dst) (hc : o.op.operands.toList.all okOperand = true)
    (hw : Region.wanted o (yieldedD ops ρ) = true) (h : opThen (opD P ρ o.op H) fun v H1 => GoI P orc fl sz ops (i + 1) k (putD ρ o.dst v) H1 Q) : GoI P orc fl sz ops i k ρ H Q := by
  unfold GoI
  rw [range_cons (lt_of_get ho)]
  exact GoO.op ho hd hc hw h
theorem GoI.skip {ops : Array Oper} {i : Nat} {o : Oper} {g : Nat × Bool} {b : Option Bool} (ho : ops[i]? = some o) (hd : okDst sz o.dst)
    (hg : o.guard = some g) (hy : yieldS ops ρ g.1 = some b) (hw : (b == some g.2) = false) (h : GoI P orc fl sz ops (i + 1) k (putD ρ o.dst dUndef) H Q) : GoI P orc fl sz ops i k ρ H Q := by
  unfold GoI
  rw [range_cons (lt_of_get ho)]
  exact GoO.skip ho hd hg hy hw h
theorem GoI.call {ops : Array Oper} {i : Nat} {o : Oper} {f : FuncId} {args : List D} {fn : Func} (ho : ops[i]? = some o) (hd : okDst sz o.dst) (hc : o.op.operands.toList.all okOperand = true)
    (hw : Region.wanted o (yieldedD ops ρ) = true) (ht : targetD ρ o.op = some (f, args)) (hf : P.funcs[f]? = some fn) (hn : fn.name ≠ "runtime.NumGoroutine") (hb : fn.body.isNone = false)
    (h : CallD P orc f args H fun v H1 => GoI P orc fl sz ops (i + 1) k (putD ρ o.dst v) H1 Q) : GoI P orc fl sz ops i k ρ H Q := by
  unfold GoI
  rw [range_cons (lt_of_get ho)]
  exact GoO.call ho hd hc hw ht hf hn hb h

/-- The operations that are left of a region. -/
def GoR (P : Program) (orc : DOracle) (fl sz : Nat) (ops : Array Oper) (rest : List Oper) (k : List K) (ρ : DEnv) (H : Mem) (Q : AExit → DEnv → Mem → Prop) : Prop :=
  ∀ i, ops.toList.drop i = rest → GoI P orc fl sz ops i k ρ H Q

theorem get_of_drop {ops : Array Oper} {i : Nat} {o : Oper} {os : List Oper} (h : ops.toList.drop i = o :: os) : ops[i]? = some o ∧ ops.toList.drop (i + 1) = os := by
  have h1 : (ops.toList.drop i)[0]? = some o := by rw [h]; rfl
  rw [List.getElem?_drop] at h1
  refine ⟨by simpa using h1, ?_⟩
  rw [← List.drop_drop, h]
  rfl

theorem Go.rg {id : Nat} {l : List Oper} (h : GoR P orc fl sz l.toArray l k ρ H Q) : Go P orc fl sz (.code (.region id l.toArray false) :: k) .normal ρ H Q := Go.reg (h 0 (by simp))
theorem GoR.nil {ops : Array Oper} (h : Go P orc fl sz k .normal ρ H Q) : GoR P orc fl sz ops [] k ρ H Q := fun i hi => by
  unfold GoI
  have : ops.size ≤ i := by simpa [List.drop_eq_nil_iff] using hi
  rw [show ops.size - i = 0 by omega]
  exact GoO.nil h
theorem GoR.op {ops : Array Oper} {os : List Oper} {dst : Option Tmp} {op : Op} {ty : TypeId} {pos : String} {after : Array Edge} (hd : okDst sz dst) (hc : op.operands.toList.all okOperand = true)
    (h : opThen (opD P ρ op H) fun v H1 => GoR P orc fl sz ops os k (putD ρ dst v) H1 Q) : GoR P orc fl sz ops (⟨dst, op, ty, pos, after, none⟩ :: os) k ρ H Q := fun i hi => by
  obtain ⟨h1, h2⟩ := get_of_drop hi
  refine GoI.op h1 hd hc rfl ?_
  cases hop : opD P ρ op H with
  | none => rw [hop] at h; exact h.elim
  | some r =>
    rw [hop] at h
    exact h (i + 1) h2
theorem GoR.opG {ops : Array Oper} {os : List Oper} {dst : Option Tmp} {op : Op} {ty : TypeId} {pos : String} {after : Array Edge} {g : Nat × Bool} (hd : okDst sz dst) (hc : op.operands.toList.all okOperand = true)
    (hw : (yieldedD ops ρ g.1 == some g.2) = true) (h : opThen (opD P ρ op H) fun v H1 => GoR P orc fl sz ops os k (putD ρ dst v) H1 Q) : GoR P orc fl sz ops (⟨dst, op, ty, pos, after, some g⟩ :: os) k ρ H Q := fun i hi => by
  obtain ⟨h1, h2⟩ := get_of_drop hi
  refine GoI.op h1 hd hc hw ?_
  cases hop : opD P ρ op H with
  | none => rw [hop] at h; exact h.elim
  | some r =>
    rw [hop] at h
    exact h (i + 1) h2
/-- A slice that an operation makes of nothing, held as an object. -/
def opThenM (x : Option (D × Mem)) (S : Mem) (F : D → Mem → Prop) : Prop :=
  match x with
  | some (.sl (some id) sz len cells, S1) => id = S.length ∧ S1 = S ++ [.own] ∧ F (.msl S.length sz len) (S ++ [.obj cells])
  | _ => False
theorem opThenM_elim {P : Program} {ρ : DEnv} {op : Op} {S : Mem} {F : D → Mem → Prop} (h : opThenM (opD P ρ op S) S F) : ∃ v S1, opM P ρ op S v S1 ∧ F v S1 := by
  unfold opThenM at h
  split at h
  · rename_i id sz len cells S1 hop
    obtain ⟨rfl, rfl, h⟩ := h
    exact ⟨_, _, .inr (.inl ⟨sz, len, cells, hop, rfl, rfl⟩), h⟩
  · exact h.elim
theorem GoR.skipG {ops : Array Oper} {os : List Oper} {dst : Option Tmp} {op : Op} {ty : TypeId} {pos : String} {after : Array Edge} {g : Nat × Bool} {b : Option Bool} (hd : okDst sz dst)
    (hy : yieldS ops ρ g.1 = some b) (hw : (b == some g.2) = false) (h : GoR P orc fl sz ops os k (putD ρ dst dUndef) H Q) : GoR P orc fl sz ops (⟨dst, op, ty, pos, after, some g⟩ :: os) k ρ H Q := fun i hi => by
  obtain ⟨h1, h2⟩ := get_of_drop hi
  exact GoI.skip h1 hd rfl hy hw (h (i + 1) h2)
theorem GoR.call {ops : Array Oper} {os : List Oper} {dst : Option Tmp} {c : Call} {ty : TypeId} {pos : String} {after : Array Edge} {f : FuncId} {args : List D} {fn : Func} (hd : okDst sz dst) (hc : (Op.call c).operands.toList.all okOperand = true)
    (ht : targetD ρ (.call c) = some (f, args)) (hf : P.funcs[f]? = some fn) (hn : (fn.name == "runtime.NumGoroutine") = false) (hb : fn.body.isNone = false)
    (h : CallD P orc f args H fun v H1 => GoR P orc fl sz ops os k (putD ρ dst v) H1 Q) : GoR P orc fl sz ops (⟨dst, .call c, ty, pos, after, none⟩ :: os) k ρ H Q := fun i hi => by
  obtain ⟨h1, h2⟩ := get_of_drop hi
  refine GoI.call h1 hd hc rfl ht hf (by simpa using hn) hb ?_
  obtain ⟨v, H', hb, q⟩ := h
  exact ⟨v, H', hb, q (i + 1) h2⟩

/-- A guard that is not known. -/
theorem GoR.splitG {ops : Array Oper} {os : List Oper} {dst : Option Tmp} {op : Op} {ty : TypeId} {pos : String} {after : Array Edge} {g : Nat × Bool} {b : Bool} (hy : yieldedD ops ρ g.1 = some b)
    (h1 : b = true → GoR P orc fl sz ops (⟨dst, op, ty, pos, after, some g⟩ :: os) k ρ H Q) (h2 : b = false → GoR P orc fl sz ops (⟨dst, op, ty, pos, after, some g⟩ :: os) k ρ H Q) :
    GoR P orc fl sz ops (⟨dst, op, ty, pos, after, some g⟩ :: os) k ρ H Q := by
  cases b
  · exact h2 rfl
  · exact h1 rfl
theorem GoR.callG {ops : Array Oper} {os : List Oper} {dst : Option Tmp} {c : Call} {ty : TypeId} {pos : String} {after : Array Edge} {g : Nat × Bool} {f : FuncId} {args : List D} {fn : Func} (hd : okDst sz dst) (hc : (Op.call c).operands.toList.all okOperand = true)
    (hw : (yieldedD ops ρ g.1 == some g.2) = true) (ht : targetD ρ (.call c) = some (f, args)) (hf : P.funcs[f]? = some fn) (hn : (fn.name == "runtime.NumGoroutine") = false) (hb : fn.body.isNone = false)
    (h : CallD P orc f args H fun v H1 => GoR P orc fl sz ops os k (putD ρ dst v) H1 Q) : GoR P orc fl sz ops (⟨dst, .call c, ty, pos, after, some g⟩ :: os) k ρ H Q := fun i hi => by
  obtain ⟨h1, h2⟩ := get_of_drop hi
  refine GoI.call h1 hd hc hw ht hf (by simpa using hn) hb ?_
  obtain ⟨v, H', hb, q⟩ := h
  exact ⟨v, H', hb, q (i + 1) h2⟩

theorem CallD.mono {f : FuncId} {args : List D} {R R' : D → Mem → Prop} (h : CallD P orc f args H R) (hr : ∀ v H', R v H' → R' v H') : CallD P orc f args H R' := by
  obtain ⟨v, H', hb, q⟩ := h
  exact ⟨v, H', hb, hr _ _ q⟩

/-- A function's own text. -/
theorem CallD.body {f : FuncId} {args : List D} {fn : Func} {c : Code} {R : D → Mem → Prop} (hf : P.funcs[f]? = some fn) (hb : fn.body = some c) (ha : args.length ≤ fn.ntmps)
    (h : Go P orc H.length fn.ntmps [.code c] .normal (initD args) H fun e ρ H' => (e = .normal ∨ e = .ret) ∧ ∃ v, resultsD P fn ρ H' = some v ∧ R v H') : CallD P orc f args H R := by
  obtain ⟨e, ρ, H', hbig, he, v, hv, hr⟩ := h
  exact ⟨v, H', .call hf hb ha hbig he hv, hr⟩

theorem putD_eq {ρ : DEnv} {t : Tmp} {v : D} : putD ρ (some t) v t = v := by simp [putD, updD]
theorem putD_ne {ρ : DEnv} {t u : Tmp} {v : D} (h : (u == t) = false) : putD ρ (some t) v u = ρ u := by simp at h; simp [putD, updD, h]
theorem putD_none {ρ : DEnv} {v : D} : putD ρ none v = ρ := rfl
theorem init_succ {a : D} {l : List D} {n : Nat} : initD (a :: l) (n + 1) = initD l n := by simp [initD]

/-- What the walk rewrites by. -/
theorem G :
    (∀ {v : D} {H : Mem} {F : D → Mem → Prop}, opThen (some (v, H)) F = F v H) ∧
    (∀ {P ρ x H}, opD P ρ (.move x) H = some (evalD ρ x, H)) ∧
    (∀ {P ρ x H}, opD P ρ (.assign x) H = some (evalD ρ x, H)) ∧
    (∀ {P ρ c a b H}, opD P ρ (.pick c a b) H = match evalD ρ c with | .bool t => some (if t then evalD ρ a else evalD ρ b, H) | _ => none) ∧
    (∀ {P ρ t x H}, opD P ρ (.box t x) H = (cellsD (evalD ρ x)).map fun cs => (.ptr H.length 0, H ++ [.obj cs])) ∧
    (∀ {P ρ t x H}, opD P ρ (.load t x) H = (loadD P t (evalD ρ x) H).map (·, H)) ∧
    (∀ {P ρ t x y H}, opD P ρ (.store t x y) H = (storeD P t (evalD ρ x) (evalD ρ y) H).map (dUndef, ·)) ∧
    (∀ {P ρ s x f H}, opD P ρ (.fieldAddr s x f) H = (fieldAtD P s (evalD ρ x) f).map (·, H)) ∧
    (∀ {P ρ t x i H}, opD P ρ (.indexAddr t x i) H = (indexAtD P t (evalD ρ x) (evalD ρ i)).map (·, H)) ∧
    (∀ {P ρ fn a b H}, opD P ρ (.makeFunc fn a b) H = some (.fn fn (a.toList.map (evalD ρ)) (b.toList.map (evalD ρ)), H)) ∧
    (∀ {P ρ t x lo hi mx H}, opD P ρ (.slice t x lo hi mx) H = (sliceD P t (evalD ρ x) (lo.map (evalD ρ)) (hi.map (evalD ρ)) (mx.map (evalD ρ))).map (·, H)) ∧
    (∀ {P ρ t n ps H}, opD P ρ (.buildSlice t n ps) H = buildSliceD P t n (ps.toList.map fun (i, x) => (i, evalD ρ x)) H) ∧
    (∀ {P ρ t ps H}, opD P ρ (.build t ps) H = (buildD P t (ps.toList.map fun (i, x) => (i, evalD ρ x))).map (·, H)) ∧
    (∀ {P ρ s d x H}, opD P ρ (.convert s d x) H = convD P s d (evalD ρ x) H) ∧
    (∀ {P ρ op t x y u H}, opD P ρ (.binOp op t x y u) H = (binD P op t x y (evalD ρ x) (evalD ρ y)).map (·, H)) ∧
    (∀ {P ρ b args at_ H}, opD P ρ (.call { callee := .builtin b, args := args, argTypes := at_ }) H = builtinD P b at_ (args.toList.map (evalD ρ)) H) ∧
    (∀ {ρ : DEnv} {t : Tmp}, evalD ρ (.tmp t) = ρ t) ∧
    (∀ {ρ : DEnv} {v : Value}, evalD ρ (.const v) = ofV v) ∧
    (∀ {ρ : DEnv} {f : FuncId}, evalD ρ (.func f) = .fn (.func f) [] []) ∧
    (∀ {ρ : DEnv} {t : Tmp} {v : D}, putD ρ (some t) v t = v) ∧
    (∀ {a : D} {l : List D}, initD (a :: l) 0 = a) ∧
    (∀ {a : D} {l : List D} {n : Nat}, initD (a :: l) (n + 1) = initD l n) :=
  ⟨rfl, rfl, rfl, rfl, rfl, rfl, rfl, rfl, rfl, rfl, rfl, rfl, rfl, rfl, rfl, rfl, rfl, rfl, rfl, putD_eq, rfl, init_succ⟩

end
end Go.DM

/- An abstract machine over Go's operations: rules for walking through statements whose order is open. -/
namespace Go.DM
open Go Go.AM

/-- An operation that does not look at memory. -/
def freeD : Op → Bool
  | .move _ | .assign _ | .pick _ _ _ | .nilCheck _ | .unOp _ _ _ | .makeInterface _ _ | .makeFunc _ _ _ | .fieldAddr _ _ _ | .indexAddr _ _ _ | .index _ _ _ | .extract _ _ | .binOp _ _ _ _ _ | .build _ _ | .slice _ _ _ _ _ => true
  | .call { callee := .builtin .len, .. } | .call { callee := .builtin .max, .. } | .call { callee := .builtin .min, .. } => true
  | _ => false
def readsD : Op → Bool
  | .load _ _ => true
  | _ => false

theorem freeD_same {P : Program} {ρ : DEnv} {op : Op} {H H1 : Mem} {v : D} (hf : freeD op = true) (h : opD P ρ op H = some (v, H1)) : H1 = H ∧ ∀ H', opD P ρ op H' = some (v, H') := by
  have key : ∀ x : Option D, (x.map (·, H)) = some (v, H1) → H1 = H ∧ ∀ H' : Mem, x.map (·, H') = some (v, H') := by
    intro x hx
    cases x with
    | none => cases hx
    | some y => cases hx; exact ⟨rfl, fun _ => rfl⟩
  cases op <;> (try (simp [freeD] at hf; done)) <;> simp only [opD] at h ⊢
  case move => cases h; exact ⟨rfl, fun _ => rfl⟩
  case assign => cases h; exact ⟨rfl, fun _ => rfl⟩
  case pick => split at h <;> first | (cases h; done) | (cases h; exact ⟨rfl, fun _ => rfl⟩)
  case nilCheck => split at h <;> first | (cases h; done) | (cases h; exact ⟨rfl, fun _ => rfl⟩)
  case makeInterface => split at h <;> first | (cases h; done) | (cases h; exact ⟨rfl, fun _ => rfl⟩)
  case makeFunc => cases h; exact ⟨rfl, fun _ => rfl⟩
  case fieldAddr => exact key _ h
  case indexAddr => exact key _ h
  case build => exact key _ h
  case slice => exact key _ h
  case binOp => exact key _ h
  case extract =>
    split at h
    · exact key _ h
    · cases h
  case index =>
    split at h
    · rename_i s k i _ _ _
      by_cases h0 : 0 ≤ i
      · rw [if_pos h0] at h
        simp only [h0, if_true]
        cases hs : s.data[i.toNat]? with
        | none => rw [hs] at h; cases h
        | some b => rw [hs] at h; cases h; exact ⟨rfl, fun _ => rfl⟩
      · rw [if_neg h0] at h; cases h
    · cases h
  case unOp op t x =>
    split at h
    · cases h; exact ⟨rfl, fun _ => rfl⟩
    · cases h; exact ⟨rfl, fun _ => rfl⟩
    · rename_i k n _
      cases hp : pureRun P (Op.intBits .xor k (if k.signed then -1 else k.max) n) with
      | none => rw [hp] at h; cases h
      | some w =>
        rw [hp] at h
        by_cases hc : closedV w = true
        · simp only [Option.bind_some, hc, if_true] at h ⊢
          cases h; exact ⟨rfl, fun _ => rfl⟩
        · simp [hc] at h
    · cases h
  case call c =>
    obtain ⟨callee, args, at_⟩ := c
    cases callee with
    | builtin b =>
      simp only at h ⊢
      generalize args.toList.map (evalD ρ) = xs at h ⊢
      have hlen : builtinD P .len at_ xs H = some (v, H1) → H1 = H ∧ ∀ H', builtinD P .len at_ xs H' = some (v, H') := by
        intro h
        match xs, h with
        | [x], h =>
          simp only [builtinD] at h ⊢
          split at h <;> first | (cases h; done) | (cases h; exact ⟨rfl, fun _ => rfl⟩)
        | [], h => cases h
        | _ :: _ :: _, h => cases h
      have hmin : builtinD P .min at_ xs H = some (v, H1) → H1 = H ∧ ∀ H', builtinD P .min at_ xs H' = some (v, H') := by
        intro h
        match xs, h with
        | [], h => simp [builtinD] at h
        | [x], h => simp [builtinD] at h
        | _ :: _ :: _ :: _, h => simp [builtinD] at h
        | [x, y], h =>
          cases x <;> first | (simp [builtinD] at h; done) | skip
          cases y <;> first | (simp [builtinD] at h; done) | skip
          cases h; exact ⟨rfl, fun _ => rfl⟩
      have hmax : builtinD P .max at_ xs H = some (v, H1) → H1 = H ∧ ∀ H', builtinD P .max at_ xs H' = some (v, H') := by
        intro h
        match xs, h with
        | [], h => simp [builtinD] at h
        | [x], h => simp [builtinD] at h
        | _ :: _ :: _ :: _, h => simp [builtinD] at h
        | [x, y], h =>
          cases x <;> first | (simp [builtinD] at h; done) | skip
          cases y <;> first | (simp [builtinD] at h; done) | skip
          cases h; exact ⟨rfl, fun _ => rfl⟩
      cases b <;> (try (simp [freeD] at hf; done))
      · exact hlen h
      · exact hmax h
      · exact hmin h
    | _ => simp [freeD] at hf

theorem readsD_same {P : Program} {ρ : DEnv} {op : Op} {H H1 : Mem} {v : D} (hf : readsD op = true) (h : opD P ρ op H = some (v, H1)) : H1 = H := by
  cases op <;> (try (simp [readsD] at hf; done)) <;> simp only [opD] at h
  cases hl : loadD P ‹_› (evalD ρ ‹_›) H with
  | none => rw [hl] at h; cases h
  | some w => rw [hl] at h; cases h; rfl

theorem freeM_same {P : Program} {ρ : DEnv} {op : Op} {H H1 : Mem} {v : D} (hf : freeD op = true) (h : opM P ρ op H v H1) : H1 = H ∧ ∀ H', opM P ρ op H' v H' := by
  rcases h with h | ⟨sz, len, cells, h, _, _⟩ | ⟨sz, len, cells, h, _, _⟩
  · exact ⟨(freeD_same hf h).1, fun H' => .inl ((freeD_same hf h).2 H')⟩
  · have := congrArg List.length (freeD_same hf h).1
    simp at this
  · have := congrArg List.length (freeD_same hf h).1
    simp at this
theorem readsM_same {P : Program} {ρ : DEnv} {op : Op} {H H1 : Mem} {v : D} (hf : readsD op = true) (h : opM P ρ op H v H1) : H1 = H := by
  rcases h with h | ⟨sz, len, cells, h, _, _⟩ | ⟨sz, len, cells, h, _, _⟩
  · exact readsD_same hf h
  · have := congrArg List.length (readsD_same hf h)
    simp at this
  · have := congrArg List.length (readsD_same hf h)
    simp at this
def makersD (ops : Array Oper) : List Nat := (List.range ops.size).filter fun i => match ops[i]? with | some o => !(freeD o.op || readsD o.op) | none => false
def freeAtD (ops : Array Oper) (i : Nat) : Bool := match ops[i]? with | some o => freeD o.op | none => false
/-- What is looked at in a region's text; the reads that stand open are named. -/
def makersL (ops : Array Oper) (loose : List Nat) : List Nat := (makersD ops).filter fun i => !loose.contains i
def drawnFineD (ops : Array Oper) (loose : List Nat) : Bool :=
  drawnOk ops (makersL ops loose) && (List.range ops.size).all fun i => (makersL ops loose).contains i || freeAtD ops i || pinned ops (makersL ops loose) i || loose.contains i

/-- All reads that stand open are done ahead of an operation that makes something; of what comes behind it nothing is asked. -/
def fenceOk (ops : Array Oper) (loose : List Nat) (F : Nat) : Bool := decide (ops.size ≤ F) || ((makersL ops loose).contains F && loose.all fun a => ordered ops ops.size a F)

section
variable (P : Program) (orc : DOracle) (fl sz : Nat) (ops : Array Oper) (loose : List Nat) (Inv : Mem → Prop) (F : Nat)
inductive Tr : Nat → DEnv → Mem → List (D × Mem) → DEnv → Mem → Prop
  | nil {ρ H} : Tr ops.size ρ H [] ρ H
  | cons {i ρ H v H1 l ρ' H'} (h : OpStepD P orc fl sz ops i ρ H v H1) (hl : i ∈ loose → H1 = H ∧ ∀ H', Inv H' → OpStepD P orc fl sz ops i ρ H' v H') (hi : i < F → Inv H1)
      (t : Tr (i + 1) (putD ρ (dstOf ops i) v) H1 l ρ' H') : Tr i ρ H ((v, H1) :: l) ρ' H'
end

section
variable {P : Program} {orc : DOracle} {fl sz : Nat} {ops : Array Oper} {loose : List Nat} {Inv : Mem → Prop} {F : Nat}

theorem Tr.spread {ρ0 : DEnv} {v : Nat → D} {Hs : Nat → Mem} {i ρ H l ρ' H'} (t : Tr P orc fl sz ops loose Inv F i ρ H l ρ' H') : Hs i = H → envPD ops v ρ0 (fun _ => true) i = ρ → (∀ k p, l[k]? = some p → v (i + k) = p.1 ∧ Hs (i + k + 1) = p.2) →
    (∀ j, i ≤ j → j < ops.size → OpStepD P orc fl sz ops j (envPD ops v ρ0 (fun _ => true) j) (Hs j) (v j) (Hs (j + 1)) ∧
      (j ∈ loose → Hs (j + 1) = Hs j ∧ ∀ H', Inv H' → OpStepD P orc fl sz ops j (envPD ops v ρ0 (fun _ => true) j) H' (v j) H') ∧ (j < F → Inv (Hs (j + 1)))) ∧
    envPD ops v ρ0 (fun _ => true) ops.size = ρ' ∧ Hs ops.size = H' := by
  induction t with
  | nil => intro h1 h2 _; exact ⟨fun j a b => by omega, h2, h1⟩
  | @cons i ρ H w H1 l ρ' H' h hl hi t ih =>
    intro h1 h2 h3
    obtain ⟨e1, e2⟩ := h3 0 _ rfl
    simp only [Nat.add_zero] at e1 e2
    obtain ⟨a, b, c⟩ := ih e2 (by simp only [envPD, if_true, h2, e1]) fun k p hk => by
      have := h3 (k + 1) p (by simpa using hk)
      rw [show i + 1 + k = i + (k + 1) by omega]
      exact this
    refine ⟨fun j hj hjs => ?_, b, c⟩
    rcases Nat.lt_or_ge i j with hij | hij
    · exact a j hij hjs
    · obtain rfl : j = i := by omega
      rw [h2, h1, e1, e2]
      exact ⟨h, hl, hi⟩

theorem ordered_lt (hd : ∀ j, j < ops.size → ∀ k ∈ direct ops j, k < j) : ∀ n i j, ordered ops n i j = true → i < j
  | 0, _, _, h => by simp [ordered] at h
  | n + 1, i, j, h => by
    simp only [ordered, List.any_eq_true, Bool.or_eq_true, beq_iff_eq] at h
    obtain ⟨k, hk, h⟩ := h
    have hj : j < ops.size := by
      rcases Nat.lt_or_ge j ops.size with hj | hj
      · exact hj
      · simp [direct, Array.getElem?_eq_none hj] at hk
    have := hd j hj k hk
    rcases h with rfl | h
    · exact this
    · exact Nat.lt_trans (ordered_lt hd n i k h) this

theorem Tr.all {ρ H l ρ' H'} (hf : drawnFineD ops loose = true) (hfe : fenceOk ops loose F = true) (h0 : Inv H) (t : Tr P orc fl sz ops loose Inv F 0 ρ H l ρ' H') (n : Nat) :
    BigD P orc fl (.ops sz ops (Region.linearise .any ops n) ρ) H (.env ρ') H' := by
  simp only [drawnFineD, Bool.and_eq_true] at hf
  obtain ⟨hok, hcl⟩ := hf
  let v : Nat → D := fun i => ((l[i]?).map (·.1)).getD dUndef
  let Hs : Nat → Mem := fun i => match i with | 0 => H | i + 1 => ((l[i]?).map (·.2)).getD H'
  obtain ⟨a, b, c⟩ := t.spread (ρ0 := ρ) (v := v) (Hs := Hs) rfl rfl fun k p hk => by
    rw [Nat.zero_add]
    exact ⟨by simp [v, hk], by simp [Hs, hk]⟩
  have hinv : ∀ q, q ≤ ops.size → q ≤ F → Inv (Hs q) := by
    intro q hq hF
    cases q with
    | zero => exact h0
    | succ q => exact (a q (Nat.zero_le _) hq).2.2 hF
  have hdir : ∀ j, j < ops.size → ∀ k ∈ direct ops j, k < j := by
    intro j hj k hk
    simp only [drawnOk, Bool.and_eq_true, List.all_eq_true, List.mem_range, decide_eq_true_eq] at hok
    exact hok.1.1 j hj k hk
  have notmk : ∀ i, i < ops.size → i ∉ loose → i ∉ makersL ops loose → ∃ o, ops[i]? = some o ∧ (freeD o.op = true ∨ readsD o.op = true) := by
    intro i hi hnl hm
    refine ⟨ops[i], by simp [hi], ?_⟩
    have hm : i ∉ makersD ops := fun h => hm (by simp only [makersL, List.mem_filter]; exact ⟨h, by simpa using hnl⟩)
    simp only [makersD, List.mem_filter, List.mem_range, hi, true_and, Array.getElem?_eq_getElem, Bool.not_eq_true', Bool.or_eq_false_iff, not_and] at hm
    cases h1 : freeD ops[i].op with
    | true => exact .inl rfl
    | false => exact .inr (by simpa using hm h1)
  have still : ∀ i, i < ops.size → i ∉ makersL ops loose → Hs (i + 1) = Hs i := by
    intro i hi hm
    by_cases hnl : i ∈ loose
    · exact ((a i (Nat.zero_le _) hi).2.1 hnl).1
    obtain ⟨o, ho, hk⟩ := notmk i hi hnl hm
    obtain ⟨o', ho', hd1, ⟨g1, b1, hg1, hy1, hb1, hv1, h⟩ | ⟨hw1, hc1, h | ⟨f, args, fn, ht, hrest⟩⟩⟩ := (a i (Nat.zero_le _) hi).1
    · exact h
    · rw [ho] at ho'
      cases ho'
      rcases hk with hk | hk
      · exact (freeM_same hk h).1
      · exact readsM_same hk h
    · rw [ho] at ho'
      cases ho'
      exfalso
      obtain ⟨dst, op, type, pos, after, guard⟩ := o
      cases op <;> (try (simp [targetD] at ht; done))
      case call cl =>
      obtain ⟨callee, args, at_⟩ := cl
      cases callee <;> simp [targetD, freeD, readsD] at hk ht
  have T : TraceD P orc fl sz ops (makersL ops loose) ρ v Hs := by
    refine ⟨fun i hi => (a i (Nat.zero_le _) hi).1, still, ?_⟩
    intro i hi hm q hq q1 q2
    by_cases hnl : i ∈ loose
    · refine ((a i (Nat.zero_le _) hi).2.1 hnl).2 _ (hinv q hq ?_)
      simp only [fenceOk, Bool.or_eq_true, decide_eq_true_eq, Bool.and_eq_true, List.contains_iff_mem, List.all_eq_true] at hfe
      rcases hfe with hF | ⟨hF, hord⟩
      · omega
      · exact q2 F hF (hord i hnl)
    obtain ⟨o, ho, hk⟩ := notmk i hi hnl hm
    have hst := still i hi hm
    have hs := (a i (Nat.zero_le _) hi).1
    rw [hst] at hs
    simp only [List.all_eq_true, List.mem_range, Bool.or_eq_true, List.contains_iff_mem] at hcl
    rcases hcl i hi with ((h | h) | h) | h
    · exact absurd h hm
    · obtain ⟨o', ho', hd, ⟨g1, b1, hg1, hy1, hb1, hv, _⟩ | ⟨hw, hc, h' | ⟨f, args, fn, ht, hrest⟩⟩⟩ := hs
      · exact ⟨o', ho', hd, .inl ⟨g1, b1, hg1, hy1, hb1, hv, rfl⟩⟩
      · rw [ho] at ho'
        cases ho'
        simp only [freeAtD, ho] at h
        exact ⟨o, ho, hd, .inr ⟨hw, hc, .inl ((freeM_same h h').2 _)⟩⟩
      · rw [ho] at ho'
        cases ho'
        exfalso
        obtain ⟨dst, op, type, pos, after, guard⟩ := o
        cases op <;> (try (simp [targetD] at ht; done))
        case call cl =>
        obtain ⟨callee, args, at_⟩ := cl
        cases callee <;> simp [targetD, freeD, readsD] at hk ht
    · have e : Hs q = Hs i := by
        have hp : ∀ m ∈ makersL ops loose, ordered ops ops.size m i = true ∨ ordered ops ops.size i m = true := by
          intro m hm
          simp only [pinned, List.all_eq_true, Bool.or_eq_true] at h
          exact h m hm
        rcases Nat.le_total i q with hle | hle
        · have key : ∀ d, i + d ≤ q → Hs (i + d) = Hs i := by
            intro d
            induction d with
            | zero => intro _; rfl
            | succ d ih =>
              intro hd
              rw [← ih (by omega), ← Nat.add_assoc]
              refine still _ (by omega) fun hmm => ?_
              rcases hp _ hmm with ho | ho
              · have := ordered_lt hdir _ _ _ ho; omega
              · have := q2 _ hmm ho; omega
          have := key (q - i) (by omega)
          rwa [show i + (q - i) = q by omega] at this
        · have key : ∀ d, q + d ≤ i → Hs (q + d) = Hs q := by
            intro d
            induction d with
            | zero => intro _; rfl
            | succ d ih =>
              intro hd
              rw [← ih (by omega), ← Nat.add_assoc]
              refine still _ (by omega) fun hmm => ?_
              rcases hp _ hmm with ho | ho
              · have := q1 _ hmm ho; omega
              · have := ordered_lt hdir _ _ _ ho; omega
          have := key (i - q) (by omega)
          rw [show q + (i - q) = i by omega] at this
          exact this.symm
      rw [e]
      exact hs
    · exact absurd h hnl
  have := drawn_allD hok T n
  rw [b, c] at this
  exact this

variable {k : List K} {ρ : DEnv} {H : Mem} {Q : AExit → DEnv → Mem → Prop}

theorem dstOf_eq {i : Nat} {o : Oper} (ho : ops[i]? = some o) : dstOf ops i = o.dst := by simp [dstOf, ho]

theorem big_tr : ∀ (d : Nat) {i : Nat} {ρ ρ' : DEnv} {H H' : Mem}, i + d = ops.size → BigD P orc fl (.ops sz ops (List.range' i d) ρ) H (.env ρ') H' → ∃ l, Tr P orc fl sz ops [] (fun _ => True) ops.size i ρ H l ρ' H'
  | 0, i, ρ, ρ', H, H', hd, hb => by
    obtain rfl : i = ops.size := by omega
    cases hb
    exact ⟨[], .nil⟩
  | d + 1, i, ρ, ρ', H, H', hd, hb => by
    rw [List.range'_succ] at hb
    cases hb with
    | opsSkip ho hg hy hw hd' h =>
      have e := dstOf_eq ho
      rw [← e] at h
      obtain ⟨l, t⟩ := big_tr d (by omega) h
      exact ⟨_, .cons ⟨_, ho, hd', .inl ⟨_, _, hg, hy, hw, rfl, rfl⟩⟩ (by simp) (fun _ => trivial) t⟩
    | opsOp ho hw hd' hc hop h =>
      have e := dstOf_eq ho
      rw [← e] at h
      obtain ⟨l, t⟩ := big_tr d (by omega) h
      exact ⟨_, .cons ⟨_, ho, hd', .inr ⟨hw, hc, .inl hop⟩⟩ (by simp) (fun _ => trivial) t⟩
    | opsCall ho hw hd' hc ht hf hn hbo hcall h =>
      have e := dstOf_eq ho
      rw [← e] at h
      obtain ⟨l, t⟩ := big_tr d (by omega) h
      exact ⟨_, .cons ⟨_, ho, hd', .inr ⟨hw, hc, .inr ⟨_, _, _, ht, hf, hn, hbo, hcall⟩⟩⟩ (by simp) (fun _ => trivial) t⟩

/-- A region whose order is open, where no read stands open. -/
theorem Go.rgS {id : Nat} {l : List Oper} (hm : P.follows .mixedOrders = true) (hf : drawnFineD l.toArray [] = true) (h : GoR P orc fl sz l.toArray l k ρ H Q) : Go P orc fl sz (.code (.region id l.toArray true) :: k) .normal ρ H Q := by
  obtain ⟨ρ', H', hb, h⟩ := h 0 (by simp)
  obtain ⟨tr, t⟩ := big_tr _ (by simp) hb
  exact ⟨.normal, ρ', H', .regionD hm (fun n => t.all hf (by simp [fenceOk]) trivial n), h⟩

/-- The operations that are left of a region whose order is open. -/
def GoW (P : Program) (orc : DOracle) (fl sz : Nat) (ops : Array Oper) (loose : List Nat) (Inv : Mem → Prop) (F : Nat) (i : Nat) (rest : List Oper) (k : List K) (ρ : DEnv) (H : Mem) (Q : AExit → DEnv → Mem → Prop) : Prop :=
  ops.toList.drop i = rest → ∃ l ρ' H', Tr P orc fl sz ops loose Inv F i ρ H l ρ' H' ∧ Go P orc fl sz k .normal ρ' H' Q

/-- A region whose order is open: the reads 'loose' must read so in every memory of Inv, and each memory is one. -/
theorem Go.rgD {id : Nat} {l : List Oper} (loose : List Nat) (Inv : Mem → Prop) (hm : P.follows .mixedOrders = true) (hf : drawnFineD l.toArray loose = true) (F : Nat) (hfe : fenceOk l.toArray loose F = true) (hi : Inv H) (h : GoW P orc fl sz l.toArray loose Inv F 0 l k ρ H Q) :
    Go P orc fl sz (.code (.region id l.toArray true) :: k) .normal ρ H Q := by
  obtain ⟨tr, ρ', H', t, h⟩ := h (by simp)
  exact ⟨.normal, ρ', H', .regionD hm (fun n => t.all hf hfe hi n), h⟩

theorem GoW.nil {i : Nat} (hi : (i == ops.size) = true) (h : Go P orc fl sz k .normal ρ H Q) : GoW P orc fl sz ops loose Inv F i [] k ρ H Q := fun _ => by
  obtain rfl : i = ops.size := by simpa using hi
  exact ⟨[], ρ, H, .nil, h⟩
theorem GoW.op {i : Nat} {os : List Oper} {dst : Option Tmp} {op : Op} {ty : TypeId} {pos : String} {after : Array Edge} (hd : okDst sz dst) (hc : op.operands.toList.all okOperand = true) (hl : loose.contains i = false)
    (h : opThen (opD P ρ op H) fun v H1 => (i < F → Inv H1) ∧ GoW P orc fl sz ops loose Inv F (i + 1) os k (putD ρ dst v) H1 Q) : GoW P orc fl sz ops loose Inv F i (⟨dst, op, ty, pos, after, none⟩ :: os) k ρ H Q := fun hi => by
  obtain ⟨h1, h2⟩ := get_of_drop hi
  cases hop : opD P ρ op H with
  | none => rw [hop] at h; exact h.elim
  | some r =>
    obtain ⟨v, H1⟩ := r
    rw [hop] at h
    obtain ⟨l, ρ', H', t, q⟩ := h.2 h2
    have e : dstOf ops i = dst := by simp [dstOf, h1]
    rw [← e] at t
    exact ⟨_, ρ', H', .cons ⟨_, h1, hd, .inr ⟨rfl, hc, .inl (.inl hop)⟩⟩ (fun hm => by simp [hm] at hl) h.1 t, q⟩
theorem GoW.read {i : Nat} {os : List Oper} {dst : Option Tmp} {op : Op} {ty : TypeId} {pos : String} {after : Array Edge} {v : D} (hd : okDst sz dst) (hc : op.operands.toList.all okOperand = true)
    (hi : Inv H) (hr : ∀ H', Inv H' → opD P ρ op H' = some (v, H')) (h : GoW P orc fl sz ops loose Inv F (i + 1) os k (putD ρ dst v) H Q) : GoW P orc fl sz ops loose Inv F i (⟨dst, op, ty, pos, after, none⟩ :: os) k ρ H Q := fun hi' => by
  obtain ⟨h1, h2⟩ := get_of_drop hi'
  obtain ⟨l, ρ', H', t, q⟩ := h h2
  have e : dstOf ops i = dst := by simp [dstOf, h1]
  rw [← e] at t
  exact ⟨_, ρ', H', .cons ⟨_, h1, hd, .inr ⟨rfl, hc, .inl (.inl (hr _ hi))⟩⟩ (fun _ => ⟨rfl, fun H' hH => ⟨_, h1, hd, .inr ⟨rfl, hc, .inl (.inl (hr _ hH))⟩⟩⟩) (fun _ => hi) t, q⟩
theorem GoW.opG {i : Nat} {os : List Oper} {dst : Option Tmp} {op : Op} {ty : TypeId} {pos : String} {after : Array Edge} {g : Nat × Bool} (hd : okDst sz dst) (hc : op.operands.toList.all okOperand = true) (hl : loose.contains i = false)
    (hw : (yieldedD ops ρ g.1 == some g.2) = true) (h : opThen (opD P ρ op H) fun v H1 => (i < F → Inv H1) ∧ GoW P orc fl sz ops loose Inv F (i + 1) os k (putD ρ dst v) H1 Q) : GoW P orc fl sz ops loose Inv F i (⟨dst, op, ty, pos, after, some g⟩ :: os) k ρ H Q := fun hi => by
  obtain ⟨h1, h2⟩ := get_of_drop hi
  cases hop : opD P ρ op H with
  | none => rw [hop] at h; exact h.elim
  | some r =>
    obtain ⟨v, H1⟩ := r
    rw [hop] at h
    obtain ⟨l, ρ', H', t, q⟩ := h.2 h2
    have e : dstOf ops i = dst := by simp [dstOf, h1]
    rw [← e] at t
    exact ⟨_, ρ', H', .cons ⟨_, h1, hd, .inr ⟨hw, hc, .inl (.inl hop)⟩⟩ (fun hm => by simp [hm] at hl) h.1 t, q⟩
theorem GoW.readG {i : Nat} {os : List Oper} {dst : Option Tmp} {op : Op} {ty : TypeId} {pos : String} {after : Array Edge} {v : D} {g : Nat × Bool} (hd : okDst sz dst) (hc : op.operands.toList.all okOperand = true)
    (hw : (yieldedD ops ρ g.1 == some g.2) = true) (hi : Inv H) (hr : ∀ H', Inv H' → opD P ρ op H' = some (v, H')) (h : GoW P orc fl sz ops loose Inv F (i + 1) os k (putD ρ dst v) H Q) : GoW P orc fl sz ops loose Inv F i (⟨dst, op, ty, pos, after, some g⟩ :: os) k ρ H Q := fun hi' => by
  obtain ⟨h1, h2⟩ := get_of_drop hi'
  obtain ⟨l, ρ', H', t, q⟩ := h h2
  have e : dstOf ops i = dst := by simp [dstOf, h1]
  rw [← e] at t
  exact ⟨_, ρ', H', .cons ⟨_, h1, hd, .inr ⟨hw, hc, .inl (.inl (hr _ hi))⟩⟩ (fun _ => ⟨rfl, fun H' hH => ⟨_, h1, hd, .inr ⟨hw, hc, .inl (.inl (hr _ hH))⟩⟩⟩) (fun _ => hi) t, q⟩
theorem GoW.skipG {i : Nat} {os : List Oper} {dst : Option Tmp} {op : Op} {ty : TypeId} {pos : String} {after : Array Edge} {g : Nat × Bool} {b : Option Bool} (hd : okDst sz dst)
    (hy : yieldS ops ρ g.1 = some b) (hw : (b == some g.2) = false) (hi : i < F → Inv H) (h : GoW P orc fl sz ops loose Inv F (i + 1) os k (putD ρ dst dUndef) H Q) : GoW P orc fl sz ops loose Inv F i (⟨dst, op, ty, pos, after, some g⟩ :: os) k ρ H Q := fun hi' => by
  obtain ⟨h1, h2⟩ := get_of_drop hi'
  obtain ⟨l, ρ', H', t, q⟩ := h h2
  have e : dstOf ops i = dst := by simp [dstOf, h1]
  rw [← e] at t
  exact ⟨_, ρ', H', .cons ⟨_, h1, hd, .inl ⟨_, _, rfl, hy, hw, rfl, rfl⟩⟩ (fun _ => ⟨rfl, fun H' hH => ⟨_, h1, hd, .inl ⟨_, _, rfl, hy, hw, rfl, rfl⟩⟩⟩) hi t, q⟩
theorem GoW.call {i : Nat} {os : List Oper} {dst : Option Tmp} {c : Call} {ty : TypeId} {pos : String} {after : Array Edge} {f : FuncId} {args : List D} {fn : Func} (hd : okDst sz dst) (hc : (Op.call c).operands.toList.all okOperand = true)
    (ht : targetD ρ (.call c) = some (f, args)) (hf : P.funcs[f]? = some fn) (hn : (fn.name == "runtime.NumGoroutine") = false) (hb : fn.body.isNone = false) (hl : loose.contains i = false)
    (h : CallD P orc f args H fun v H1 => (i < F → Inv H1) ∧ GoW P orc fl sz ops loose Inv F (i + 1) os k (putD ρ dst v) H1 Q) : GoW P orc fl sz ops loose Inv F i (⟨dst, .call c, ty, pos, after, none⟩ :: os) k ρ H Q := fun hi => by
  obtain ⟨h1, h2⟩ := get_of_drop hi
  obtain ⟨v, H1, hcall, hinv, h⟩ := h
  obtain ⟨l, ρ', H', t, q⟩ := h h2
  have e : dstOf ops i = dst := by simp [dstOf, h1]
  rw [← e] at t
  exact ⟨_, ρ', H', .cons ⟨_, h1, hd, .inr ⟨rfl, hc, .inr ⟨_, _, _, ht, hf, by simpa using hn, hb, hcall⟩⟩⟩ (fun hm => by simp [hm] at hl) hinv t, q⟩
/-- A slice that an operation makes of nothing, its right to grow given up. -/
def opThenL (x : Option (D × Mem)) (S : Mem) (F : D → Prop) : Prop :=
  match x with
  | some (.sl (some id) sz len cells, S1) => id = S.length ∧ S1 = S ++ [.own] ∧ (∀ c ∈ cells, DLow 0 c) ∧ F (.sl none sz len cells)
  | _ => False
theorem buildSliceD_any {P : Program} {t n : Nat} {ps : List (Nat × D)} {S S' : Mem} {sz len : Nat} {cells : List D} (h : buildSliceD P t n ps S = some (.sl (some S.length) sz len cells, S ++ [.own])) : buildSliceD P t n ps S' = some (.sl (some S'.length) sz len cells, S' ++ [.own]) := by
  unfold buildSliceD at h ⊢
  cases hu : P.underlying t with
  | none => simp [hu] at h
  | some d =>
  cases d <;> simp only [hu, Option.bind_eq_bind, Option.bind_some, reduceCtorEq] at h ⊢
  rename_i e
  cases hs : sizeA P e with
  | none => simp [hs] at h
  | some size =>
  cases hz : zeroA P e with
  | none => simp [hs, hz] at h
  | some z =>
  simp only [hs, hz, Option.bind_some] at h ⊢
  split at h
  · cases h
  · rename_i hc
    rw [if_neg hc]
    cases hf : fillD (fun i => some (i * size, size)) (repD (z.cells.toList.map ofS) n) ps with
    | none => simp [hf] at h
    | some cs =>
      simp only [hf, Option.bind_some] at h ⊢
      split at h
      · rename_i h1
        rw [if_pos h1]
        simp only [Option.some.injEq, Prod.mk.injEq, D.sl.injEq] at h
        obtain ⟨⟨_, rfl, rfl, rfl⟩, _⟩ := h
        rfl
      · cases h
theorem GoW.newL {i : Nat} {os : List Oper} {dst : Option Tmp} {t n : Nat} {ps : Array (Nat × Operand)} {ty : TypeId} {pos : String} {after : Array Edge} (hd : okDst sz dst) (hc : (Op.buildSlice t n ps).operands.toList.all okOperand = true) (_hl : loose.contains i = true) (hi : Inv H)
    (h : opThenL (opD P ρ (.buildSlice t n ps) H) H fun v => GoW P orc fl sz ops loose Inv F (i + 1) os k (putD ρ dst v) H Q) : GoW P orc fl sz ops loose Inv F i (⟨dst, .buildSlice t n ps, ty, pos, after, none⟩ :: os) k ρ H Q := fun hi' => by
  obtain ⟨h1, h2⟩ := get_of_drop hi'
  unfold opThenL at h
  split at h
  · rename_i id sz' len cells S1 hop
    obtain ⟨rfl, rfl, hl, h⟩ := h
    obtain ⟨l, ρ', H', t', q⟩ := h h2
    have e : dstOf ops i = dst := by simp [dstOf, h1]
    rw [← e] at t'
    have key : ∀ H' : Mem, opM P ρ (.buildSlice t n ps) H' (.sl none sz' len cells) H' := fun H' =>
      .inr (.inr ⟨sz', len, cells, buildSliceD_any hop, fun i h => hl _ (List.getElem_mem h), rfl, rfl⟩)
    exact ⟨_, ρ', H', .cons ⟨_, h1, hd, .inr ⟨rfl, hc, .inl (key _)⟩⟩ (fun _ => ⟨rfl, fun H' _ => ⟨_, h1, hd, .inr ⟨rfl, hc, .inl (key _)⟩⟩⟩) (fun _ => hi) t', q⟩
  · exact h.elim
end

end Go.DM

/- An abstract machine over Go's operations: it can be run. -/
namespace Go.DM
open Go Go.AM

/-- Whether an operation is wanted, where that is known. -/
def wantD (ops : Array Oper) (ρ : DEnv) (o : Oper) : Option Bool :=
  match o.guard with
  | none => some true
  | some g => match yieldS ops ρ g.1 with | some b => some (b == some g.2) | none => none
def run (P : Program) : Nat → DJob → Mem → Option (DOut × Mem)
  | 0, _, _ => none
  | n + 1, j, H =>
    match j with
    | .ops sz ops l ρ =>
      match l with
      | [] => some (.env ρ, H)
      | i :: l =>
        match ops[i]? with
        | none => none
        | some o =>
          match okDstB sz o.dst with
          | false => none
          | true =>
            match wantD ops ρ o with
            | none => none
            | some false => run P n (.ops sz ops l (putD ρ o.dst dUndef)) H
            | some true =>
              match o.op.operands.toList.all okOperand with
              | false => none
              | true =>
                match targetD ρ o.op with
                | some (f, args) =>
                  match P.funcs[f]? with
                  | none => none
                  | some fn =>
                    match fn.name == "runtime.NumGoroutine" || fn.body.isNone with
                    | true => none
                    | false =>
                      match run P n (.call f args) H with
                      | some (.val v, H1) => run P n (.ops sz ops l (putD ρ o.dst v)) H1
                      | _ => none
                | none =>
                  match opD P ρ o.op H with
                  | some (v, H1) => run P n (.ops sz ops l (putD ρ o.dst v)) H1
                  | none => none
    | .code sz c ρ =>
      match c with
      | .skip => some (.exit .normal ρ, H)
      | .label _ => some (.exit .normal ρ, H)
      | .exit id => some (.exit (.exit id) ρ, H)
      | .ret => some (.exit .ret ρ, H)
      | .seq c d =>
        match run P n (.code sz c ρ) H with
        | some (.exit .normal ρ1, H1) => run P n (.code sz d ρ1) H1
        | some (.exit (.exit id) ρ1, H1) => some (.exit (.exit id) ρ1, H1)
        | some (.exit .ret ρ1, H1) => some (.exit .ret ρ1, H1)
        | _ => none
      | .cond c x y =>
        match okOperand c, evalD ρ c with
        | true, .bool true => run P n (.code sz x ρ) H
        | true, .bool false => run P n (.code sz y ρ) H
        | _, _ => none
      | .block id c =>
        match run P n (.code sz c ρ) H with
        | some (.exit .normal ρ1, H1) => some (.exit .normal ρ1, H1)
        | some (.exit (.exit id') ρ1, H1) => match id' == id with | true => some (.exit .normal ρ1, H1) | false => some (.exit (.exit id') ρ1, H1)
        | some (.exit .ret ρ1, H1) => some (.exit .ret ρ1, H1)
        | _ => none
      | .loop c =>
        match run P n (.code sz c ρ) H with
        | some (.exit .normal ρ1, H1) => run P n (.code sz (.loop c) ρ1) H1
        | some (.exit (.exit id) ρ1, H1) => some (.exit (.exit id) ρ1, H1)
        | some (.exit .ret ρ1, H1) => some (.exit .ret ρ1, H1)
        | _ => none
      | .region _ ops d =>
        match d && !drawnFineD ops [] with
        | true => none
        | false =>
          match run P n (.ops sz ops (List.range' 0 ops.size) ρ) H with
          | some (.env ρ1, H1) => some (.exit .normal ρ1, H1)
          | _ => none
      | _ => none
    | .call f args =>
      match P.funcs[f]? with
      | none => none
      | some fn =>
        match fn.body with
        | none => none
        | some c =>
          match decide (args.length ≤ fn.ntmps) with
          | false => none
          | true =>
            match run P n (.code fn.ntmps c (initD args)) H with
            | some (.exit (.exit _) _, _) => none
            | some (.exit _ ρ, H') => match resultsD P fn ρ H' with | some v => some (.val v, H') | none => none
            | _ => none

end Go.DM

/- A machine over Go's operations in which slices are values: calls of which nothing new is kept; loops that forget. -/
namespace Go.DM
open Go Go.AM

section
variable {P : Program} {orc : DOracle} {fl sz : Nat} {k : List K} {ρ : DEnv} {S : Mem} {Q : AExit → DEnv → Mem → Prop}
theorem Wk.of_low {n : Nat} {d : D} (h : DLow n d) : Wk n d d := fun _ _ _ hr => h.lower hr
/-- A slice loses its right to grow; its cells are known less. -/
theorem Wk.sl {n : Nat} {own : Option Nat} {sz len : Nat} {cells cells' : List D} (hl : cells.length = cells'.length) (h : ∀ i (h : i < cells.length) (h' : i < cells'.length), Wk n cells[i] cells'[i]) : Wk n (.sl own sz len cells) (.sl none sz len cells') := by
  intro r v hn hr
  cases hr with
  | sl _ _ _ _ vs h0 o m b hk hg hz hr hm hl' hs ho hc =>
    exact .sl (r := ⟨n, r.ψ, r.k, r.H⟩) none sz len cells' vs h0 o m b hk hg hz hr hm (by omega) (by omega) (fun id e => by cases e) fun i h1 h2 => h i (by omega) h1 r _ hn (hc i (by omega) h2)
  | slE _ _ he =>
    have : cells' = [] := List.eq_nil_of_length_eq_zero hl.symm
    subst this
    exact .slE _ _ he
theorem Wk.disown {n : Nat} {own : Option Nat} {sz len : Nat} {cells : List D} (h : ∀ i (h : i < cells.length), DLow n cells[i]) : Wk n (.sl own sz len cells) (.sl none sz len cells) :=
  .sl rfl fun i h1 _ => .of_low (h i h1)
theorem Wk.nilE {n sz : Nat} : Wk n .nils (.sl none sz 0 []) := fun r v _ h => by cases h; exact .slE _ _ (.inl rfl)
theorem Wk.sl0E {n sz : Nat} : Wk n .sl0 (.sl none sz 0 []) := fun r v _ h => by cases h with | sl0 _ h => exact .slE _ _ h
theorem Wf.refl {d : D} : Wf d d := fun _ _ h => h
theorem Wf.bot {d : D} : Wf d .bot := fun _ v _ => .bot v
theorem Wf.sl {own : Option Nat} {sz len : Nat} {cells cells' : List D} (hl : cells.length = cells'.length) (h : ∀ i (h : i < cells.length) (h' : i < cells'.length), Wf cells[i] cells'[i]) : Wf (.sl own sz len cells) (.sl none sz len cells') := by
  intro r v hr
  cases hr with
  | sl _ _ _ _ vs h0 o m b hk hg hz hr hm hl' hs ho hc =>
    exact .sl none sz len cells' vs h0 o m b hk hg hz hr hm (by omega) (by omega) (fun id e => by cases e) fun i h1 h2 => h i (by omega) h1 r _ (hc i (by omega) h2)
  | slE _ _ he =>
    have : cells' = [] := List.eq_nil_of_length_eq_zero hl.symm
    subst this
    exact .slE _ _ he
theorem Wf.disown {own : Option Nat} {sz len : Nat} {cells : List D} : Wf (.sl own sz len cells) (.sl none sz len cells) := .sl rfl fun _ _ _ => .refl
theorem Wf.nilE {sz : Nat} : Wf .nils (.sl none sz 0 []) := fun r v h => by cases h; exact .slE _ _ (.inl rfl)
theorem Wf.sl0E {sz : Nat} : Wf .sl0 (.sl none sz 0 []) := fun r v h => by cases h with | sl0 _ h => exact .slE _ _ h
theorem Wf.agg {xs ys : List D} (hl : xs.length = ys.length) (h : ∀ i (h : i < xs.length) (h' : i < ys.length), Wf xs[i] ys[i]) : Wf (.agg xs) (.agg ys) := by
  intro r v hr
  cases hr with
  | agg _ zs h1 h2 => exact .agg ys zs (by omega) fun i a b => h i (by omega) a r _ (h2 i (by omega) b)
theorem Wf.tup {xs ys : List D} (hl : xs.length = ys.length) (h : ∀ i (h : i < xs.length) (h' : i < ys.length), Wf xs[i] ys[i]) : Wf (.tup xs) (.tup ys) := by
  intro r v hr
  cases hr with
  | tup _ zs h1 h2 => exact .tup ys zs (by omega) fun i a b => h i (by omega) a r _ (h2 i (by omega) b)

/-- Values one by one. -/
inductive WfL : List D → List D → Prop
  | nil : WfL [] []
  | cons {x y xs ys} (h : Wf x y) (hs : WfL xs ys) : WfL (x :: xs) (y :: ys)
theorem WfL.length {xs ys} (h : WfL xs ys) : xs.length = ys.length := by
  induction h with
  | nil => rfl
  | cons _ _ ih => simp [ih]
theorem WfL.get {xs ys} (h : WfL xs ys) : ∀ i (h1 : i < xs.length) (h2 : i < ys.length), Wf xs[i] ys[i] := by
  induction h with
  | nil => intro i h; simp at h
  | cons h _ ih =>
    intro i h1 h2
    cases i with
    | zero => exact h
    | succ i => exact ih i (by simpa using h1) (by simpa using h2)
theorem Wf.agg' {xs ys : List D} (h : WfL xs ys) : Wf (.agg xs) (.agg ys) := .agg h.length h.get
theorem Wf.tup' {xs ys : List D} (h : WfL xs ys) : Wf (.tup xs) (.tup ys) := .tup h.length h.get
theorem Wf.to_Wk {n : Nat} {d d' : D} (h : Wf d d') (hl : DLow n d') : Wk n d d' := fun r v _ hr => hl.lower (h r v hr)

/-- Temporaries that are kept, by their numbers; of all others nothing is known. -/
def envL : List (Nat × D) → DEnv
  | [], _ => .bot
  | (i, d) :: l, t => if t = i then d else envL l t
inductive WfE (ρ : DEnv) : List (Nat × D) → Prop
  | nil : WfE ρ []
  | cons {i d l} (h : Wf (ρ i) d) (hs : WfE ρ l) : WfE ρ ((i, d) :: l)
theorem WfE.all {ρ : DEnv} {l : List (Nat × D)} (h : WfE ρ l) : ∀ t, Wf (ρ t) (envL l t) := by
  induction h with
  | nil => intro t; exact .bot
  | @cons i d l h _ ih =>
    intro t
    simp only [envL]
    split
    · rename_i e; subst e; exact h
    · exact ih t
theorem Go.keep {c : Code} (l : List (Nat × D)) (hw : WfE ρ l) (h : Go P orc fl sz (.code c :: k) .normal (envL l) S Q) : Go P orc fl sz (.code c :: k) .normal ρ S Q := by
  obtain ⟨e, ρ1, H1, hb, h⟩ := h
  exact ⟨e, ρ1, H1, .forget hw.all hb, h⟩

/-- An empty slice is nil, or it is not. -/
theorem CallD.nilOr {f : FuncId} {pre post : List D} {sz : Nat} {d : D} (h1 : CallD P orc f (pre ++ .nils :: post) S fun d' S' => S' = S ∧ d' = d) (h2 : CallD P orc f (pre ++ .slx :: post) S fun d' S' => S' = S ∧ d' = d) :
    CallD P orc f (pre ++ .sl none sz 0 [] :: post) S fun d' S' => S' = S ∧ d' = d := by
  obtain ⟨d1, S1, b1, rfl, rfl⟩ := h1
  obtain ⟨d2, S2, b2, rfl, rfl⟩ := h2
  refine ⟨_, _, .either b1 b2 fun r vs hd => ?_, rfl, rfl⟩
  have key : ∀ {x : D} (i : Nat) (v : Value), i = pre.length → vs[i]? = some v → DRel r x v → DL r (pre ++ x :: post) vs := by
    intro x i v hi hv hx
    subst hi
    refine ⟨by simpa using hd.1, fun j a b => ?_⟩
    rcases Nat.lt_trichotomy j pre.length with hj | hj | hj
    · have := hd.2 j (by simp; omega) b
      rw [List.getElem_append_left hj] at this ⊢
      exact this
    · subst hj
      simp only [List.getElem_append_right (Nat.le_refl _), Nat.sub_self, List.getElem_cons_zero]
      rw [List.getElem?_eq_getElem b] at hv
      cases hv
      exact hx
    · have := hd.2 j (by simp at a ⊢; omega) b
      obtain ⟨m, rfl⟩ := Nat.exists_eq_add_of_lt hj
      simp only [List.getElem_append_right (show pre.length ≤ pre.length + m + 1 by omega), show pre.length + m + 1 - pre.length = m + 1 by omega, List.getElem_cons_succ] at this ⊢
      exact this
  have hl : pre.length < vs.length := by rw [← hd.1]; simp
  have hv := hd.2 pre.length (by simp) hl
  simp only [List.getElem_append_right (Nat.le_refl _), Nat.sub_self, List.getElem_cons_zero] at hv
  have hg : vs[pre.length]? = some vs[pre.length] := List.getElem?_eq_getElem hl
  generalize vs[pre.length] = v at hv hg
  cases hv with
  | sl _ _ _ _ us h0 o m b hk hgb hz hr hm hl' hs ho hc => exact .inr (key _ _ rfl hg (.slx _ _))
  | slE _ _ he =>
    rcases he with rfl | rfl
    · exact .inl (key _ _ rfl hg .nils)
    · exact .inr (key _ _ rfl hg (.slx _ _))

/-- A call is handed less than is known. -/
theorem CallD.weak {f : FuncId} {args args' : List D} {R : D → Mem → Prop} (hw : WfL args args') (h : CallD P orc f args' S R) : CallD P orc f args S R := by
  obtain ⟨d, S1, hb, hr⟩ := h
  exact ⟨d, S1, .weak hb hw.length hw.get, hr⟩

/-- A call of which nothing new is kept but what it tells. -/
theorem CallD.drop {f : FuncId} {args : List D} {R : D → Prop}
    (h : CallD P orc f args S fun d S1 => ∃ d' E, S1 = S ++ E ∧ Wk S.length d d' ∧ R d') : CallD P orc f args S fun d S' => S' = S ∧ R d := by
  obtain ⟨d, S1, hb, d', E, rfl, hw, hr⟩ := h
  refine ⟨d', (S ++ E).take S.length, .drop hb (by simp) hw fun o cells ho hc => .inl ?_, by simp, hr⟩
  unfold objAt at hc ⊢
  rwa [List.getElem?_append_left ho] at hc

theorem Wz.of_low {S1 : Mem} {F : List Nat} {ι : Nat → Nat} {m n : Nat} (hι : ∀ i, i < m → ι i = i) (hm : m ≤ n) {d : D} (h : DLow m d) : Wz S1 F ι n d d := fun r v _ hr =>
  h.rename hm (fun i hi => by show r.ψ (ι i) = _; rw [hι i hi]) (fun h hk => by simp [hk]) hr
theorem Wz.msl {S1 : Mem} {F : List Nat} {ι : Nat → Nat} {i n sz len : Nat} (hi : i < n) : Wz S1 F ι n (.msl (ι i) sz len) (.msl i sz len) := fun r v _ hr => by
  cases hr with
  | msl _ _ _ ho hlt hz => exact .msl (r := ⟨n, fun i => r.ψ (ι i), fun h => r.k h || F.any (fun o => r.ψ o == h), r.H⟩) i sz len hi hlt hz
/-- Cells one by one. -/
def WzL (S1 : Mem) (F : List Nat) (ι : Nat → Nat) (n : Nat) (xs ys : List D) : Prop := xs.length = ys.length ∧ ∀ j (h : j < xs.length) (h' : j < ys.length), Wz S1 F ι n xs[j] ys[j]
theorem WzL.nil {S1 F ι n} : WzL S1 F ι n [] [] := ⟨rfl, fun j h => by simp at h⟩
theorem WzL.cons {S1 F ι n x y xs ys} (h : Wz S1 F ι n x y) (hs : WzL S1 F ι n xs ys) : WzL S1 F ι n (x :: xs) (y :: ys) :=
  ⟨by simp [hs.1], fun j h1 h2 => by cases j with | zero => exact h | succ j => exact hs.2 j (by simpa using h1) (by simpa using h2)⟩
theorem Wz.tup {S1 F ι n xs ys} (h : WzL S1 F ι n xs ys) : Wz S1 F ι n (.tup xs) (.tup ys) := fun r v hS hr => by
  cases hr with
  | tup _ zs h1 h2 => exact .tup (r := ⟨n, fun i => r.ψ (ι i), fun h => r.k h || F.any (fun o => r.ψ o == h), r.H⟩) ys zs (h.1.symm.trans h1) fun i a b => h.2 i (by rw [h.1]; exact a) a r _ hS (h2 i _ b)
theorem Wz.nilE {S1 F ι n} {sz : Nat} : Wz S1 F ι n .nils (.sl none sz 0 []) := fun r v _ h => by cases h; exact .slE _ _ (.inl rfl)
theorem Wz.sl0E {S1 F ι n} {sz : Nat} : Wz S1 F ι n .sl0 (.sl none sz 0 []) := fun r v _ h => by cases h with | sl0 _ h => exact .slE _ _ h
/-- A slice that was written is one that is read from then on. -/
theorem Wz.freeze {S1 F ι n} {o sz len : Nat} {cells cells' : List D} (ho : o ∈ F) (hob : objAt S1 o = some cells) (hl : cells.length = len * sz) (h : WzL S1 F ι n cells cells') : Wz S1 F ι n (.msl o sz len) (.sl none sz len cells') := fun r v hS hr => by
  cases hr with
  | msl _ _ _ ho' hlt hz =>
    obtain ⟨b, g, w, l, kk, dl⟩ := hS.obj o cells hob
    refine .sl (r := ⟨n, fun i => r.ψ (ι i), fun h => r.k h || F.any (fun o => r.ψ o == h), r.H⟩) none sz len cells' b.cells (r.ψ o) 0 len b ?_ g (hz b g) ?_ (Nat.le_refl _) (h.1.symm.trans dl.1) (h.1.symm.trans hl) (fun id e => by cases e) fun i h1 h2 => h.2 i (by rw [h.1]; exact h1) h1 r _ hS (dl.2 i _ h2)
    · simp only [Bool.or_eq_true, List.any_eq_true, beq_iff_eq]
      exact .inr ⟨o, ho, rfl⟩
    · have := readA_mk (H := r.H) (h := r.ψ o) (o := 0) (n := b.cells.length) g (by simp)
      rw [List.drop_zero, List.take_length] at this
      exact this
/-- A call of which some of what came new is kept. -/
theorem CallD.keep {f : FuncId} {args : List D} {R : D → Mem → Prop}
    (h : CallD P orc f args S fun d S1 => ∃ (F : List Nat) (ι : Nat → Nat) (S2 : Mem) (d' : D), S.length ≤ S2.length ∧ (∀ i, i < S.length → ι i = i) ∧ (∀ i j, i < S2.length → j < S2.length → ι i = ι j → i = j) ∧ (∀ o ∈ F, ∃ cells, objAt S1 o = some cells) ∧ (∀ i, i < S2.length → ι i ∉ F) ∧
      (∀ i cells, objAt S2 i = some cells → (i < S.length ∧ objAt S i = some cells ∧ objAt S1 i = some cells) ∨ ∃ c, objAt S1 (ι i) = some c ∧ WzL S1 F ι S2.length c cells) ∧
      (∀ i : Nat, S2[i]? = some .own → S1[ι i]? = some .own) ∧ Wz S1 F ι S2.length d d' ∧ R d' S2) : CallD P orc f args S R := by
  obtain ⟨d, S1, hb, F, ι, S2, d', h1, h2, h3, h4, h5, h6, h7, h8, hr⟩ := h
  exact ⟨d', S2, .keep F ι hb h1 h2 h3 h4 h5 (fun i cells hi => (h6 i cells hi).imp id fun ⟨c, a, b⟩ => ⟨c, a, b.1, b.2⟩) h7 h8, hr⟩
/-- A call whose new slices are read only from then on. -/
theorem CallD.freeze {f : FuncId} {args : List D} {R : D → Prop}
    (h : CallD P orc f args S fun d S1 => ∃ (d' : D) (E : Mem) (F : List Nat), S1 = S ++ E ∧ (∀ o ∈ F, S.length ≤ o ∧ ∃ cells, objAt S1 o = some cells) ∧ Wz S1 F id S.length d d' ∧ R d') : CallD P orc f args S fun d S' => S' = S ∧ R d := by
  obtain ⟨d, S1, hb, d', E, F, rfl, hF, hw, hr⟩ := h
  refine CallD.keep ⟨d, _, hb, F, id, S, d', Nat.le_refl _, fun _ _ => rfl, fun i j _ _ e => e, fun o ho => (hF o ho).2, fun i hi hm => absurd (hF i hm).1 (by simpa using hi), fun i cells hi => .inl ?_, fun i hi => ?_, hw, rfl, hr⟩
  · have hlt : i < S.length := (List.getElem?_eq_some_iff.1 (objAt_some hi)).1
    refine ⟨hlt, hi, ?_⟩
    unfold objAt at hi ⊢
    rwa [List.getElem?_append_left hlt]
  · have hlt : i < S.length := (List.getElem?_eq_some_iff.1 hi).1
    rw [id, List.getElem?_append_left hlt]
    exact hi
/-- A call of which one new slice is kept, that may be written. -/
theorem CallD.keep1 {f : FuncId} {args : List D} {R : D → Mem → Prop}
    (h : CallD P orc f args S fun d S1 => ∃ (o : Nat) (E : Mem) (cells cells' : List D) (d' : D), S1 = S ++ E ∧ S.length ≤ o ∧ objAt S1 o = some cells ∧ (∀ ι, (∀ i, i < S.length → ι i = i) → ι S.length = o → WzL S1 [] ι (S.length + 1) cells cells' ∧ Wz S1 [] ι (S.length + 1) d d') ∧ R d' (S ++ [.obj cells'])) : CallD P orc f args S R := by
  obtain ⟨d, S1, hb, o, E, cells, cells', d', rfl, ho, hob, hw, hr⟩ := h
  have hι : ∀ i, i < S.length → (fun i => if i < S.length then i else o) i = i := fun i hi => by simp [hi]
  obtain ⟨w1, w2⟩ := hw (fun i => if i < S.length then i else o) hι (by simp)
  refine CallD.keep ⟨d, _, hb, [], fun i => if i < S.length then i else o, S ++ [.obj cells'], d', by simp, hι, fun i j hi hj e => ?_, by simp, by simp, fun i cells0 hi => ?_, fun i hi => ?_, by simpa using w2, hr⟩
  · simp only [List.length_append, List.length_cons, List.length_nil] at hi hj
    simp only at e
    split at e <;> split at e <;> omega
  · by_cases hlt : i < S.length
    · left
      have h0 : objAt S i = some cells0 := by unfold objAt at hi ⊢; rwa [List.getElem?_append_left hlt] at hi
      refine ⟨hlt, h0, ?_⟩
      unfold objAt at h0 ⊢
      rwa [List.getElem?_append_left hlt]
    · right
      have he : i = S.length := by
        have := (List.getElem?_eq_some_iff.1 (objAt_some hi)).1
        simp at this
        omega
      subst he
      simp [objAt] at hi
      subst hi
      exact ⟨cells, by simpa using hob, by simpa using w1⟩
  · by_cases hlt : i < S.length
    · rw [List.getElem?_append_left hlt] at hi
      simp only [hlt, if_true]
      rw [List.getElem?_append_left hlt]
      exact hi
    · have he : i = S.length := by
        have := (List.getElem?_eq_some_iff.1 hi).1
        simp at this
        omega
      subst he
      simp at hi
end
end Go.DM
