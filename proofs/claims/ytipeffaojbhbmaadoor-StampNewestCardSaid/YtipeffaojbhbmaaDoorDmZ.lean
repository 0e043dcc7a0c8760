/- A machine over Go's operations in which slices are values: what a walk rewrites by. -/
import Derived.Test.YtipeffaojbhbmaaDoorDmY
import Derived.Test.YtipeffaojbhbmaaDoorAmR
import Derived.IntWalk
set_option linter.unusedSimpArgs false
set_option linter.unusedVariables false
namespace Go.DM
open Go Go.AM

section
variable {P : Program} {orc : DOracle} {fl sz : Nat} {k : List K} {ρ : DEnv} {S : Mem} {Q : AExit → DEnv → Mem → Prop}
theorem Go.lpN {c : Code} (h : Go P orc fl sz (.code (.loop c) :: k) .normal ρ S Q) : Go P orc fl sz (.lp c :: k) .normal ρ S Q := h

/-- A loop, by a measure. -/
theorem Go.while {c : Code} {α : Type} (m : α → Nat) (e : α → List (Nat × D)) (S : α → Mem) (Inv : α → Prop)
    (h : ∀ a, Inv a → (∀ a', m a' < m a → Inv a' → Go P orc fl sz (.code (.loop c) :: k) .normal (envL (e a')) (S a') Q) → Go P orc fl sz (.code c :: .lp c :: k) .normal (envL (e a)) (S a) Q) :
    ∀ a, Inv a → Go P orc fl sz (.code (.loop c) :: k) .normal (envL (e a)) (S a) Q := by
  intro a ha
  generalize hn : m a = n
  induction n using Nat.strongRecOn generalizing a with
  | ind n ih =>
    refine Go.loop (h a ha fun a' hlt ha' => ?_)
    exact ih (m a') (hn ▸ hlt) a' ha' rfl

theorem envL_eq {i : Nat} {d : D} {l : List (Nat × D)} : envL ((i, d) :: l) i = d := by simp [envL]
theorem envL_ne {i t : Nat} {d : D} {l : List (Nat × D)} (h : (t == i) = false) : envL ((i, d) :: l) t = envL l t := by simp at h; simp [envL, h]
theorem objAt_app {S E : Mem} {n : Nat} : objAt (S ++ E) (S.length + n) = objAt E n := by simp [objAt, List.getElem?_append_right]
theorem objAt_app0 {S E : Mem} : objAt (S ++ E) S.length = objAt E 0 := objAt_app (n := 0)
theorem objAt_zero {x : Ob} {E : Mem} : objAt (x :: E) 0 = match x with | .obj c => some c | _ => none := by cases x <;> rfl
theorem objAt_succ {x : Ob} {E : Mem} {n : Nat} : objAt (x :: E) (n + 1) = objAt E n := by simp [objAt]
theorem set_app {S E : Mem} {n : Nat} {x : Ob} : (S ++ E).set (S.length + n) x = S ++ E.set n x := by simp
theorem set_app0 {S E : Mem} {x : Ob} : (S ++ E).set S.length x = S ++ E.set 0 x := by simp
theorem objAt_old {S E : Mem} {o : Nat} {c : List D} (h : objAt S o = some c) : objAt (S ++ E) o = some c := by
  have := (List.getElem?_eq_some_iff.1 (objAt_some h)).1
  unfold objAt at h ⊢
  rwa [List.getElem?_append_left this]
theorem objAt_lt {S : Mem} {o : Nat} {c : List D} (h : objAt S o = some c) : o < S.length := (List.getElem?_eq_some_iff.1 (objAt_some h)).1

theorem ld_agg {t n : Nat} (ha : isAggA P t = some true) (hs : sizeA P t = some n) {x : D} : loadD P t x S = (cellsAt x S).bind fun p => if p.2 + n ≤ p.1.length then some (.agg ((p.1.drop p.2).take n)) else none := by
  unfold loadD
  rw [ha, hs]
  cases cellsAt x S with
  | none => rfl
  | some p => rfl
theorem ld_one {t : Nat} (ha : isAggA P t = some false) {x : D} : loadD P t x S = (cellsAt x S).bind fun p => p.1[p.2]? := by
  unfold loadD
  rw [ha]
  cases cellsAt x S with
  | none => rfl
  | some p => rfl
theorem st_cells {t n : Nat} (hs : sizeA P t = some n) {o off : Nat} {v : D} {vs : List D} (hv : cellsD v = some vs) (hl : vs.length = n) (ho : vs.all D.one = true) :
    storeD P t (.ptr o off) v S = (objAt S o).bind fun cells => if off + n ≤ cells.length then some (S.set o (.obj (wr cells off vs))) else none := by
  unfold storeD
  rw [hs, hv]
  simp only
  cases objAt S o with
  | none => rfl
  | some cells =>
    simp only [Option.bind_some, hl, ho, and_true, true_and]
theorem al_cells {t : Nat} {z : Value} (hz : zeroA P t = some z) (hs : z.cells.all scalarV = true) : opD P ρ (.alloc t) S = some (.ptr S.length 0, S ++ [.obj (z.cells.toList.map ofS)]) := by
  simp [opD, hz, hs]
theorem fa_ptr {s f k : Nat} {fields : Array Field} {fd : Field} {n : Nat} (hu : P.underlying s = some (.struct fields)) (hf : fields[f]? = some fd) (hs : sizeA P fd.type = some (n + 1)) (hk : fd.offset = k) {o off : Nat} :
    fieldAtD P s (.ptr o off) f = some (.ptr o (off + k)) := by simp [fieldAtD, hu, hf, hs, hk]
theorem fa_eptr {s f k : Nat} {fields : Array Field} {fd : Field} {n : Nat} (hu : P.underlying s = some (.struct fields)) (hf : fields[f]? = some fd) (hs : sizeA P fd.type = some (n + 1)) (hk : fd.offset = k) {cells : List D} {off : Nat} :
    fieldAtD P s (.eptr cells off) f = some (.eptr cells (off + k)) := by simp [fieldAtD, hu, hf, hs, hk]
theorem ix_sl {t e n : Nat} (hu : P.underlying t = some (.slice e)) (hs : sizeA P e = some n) {own : Option Nat} {len : Nat} {cells : List D} {k : IntKind} {i : Int} :
    indexAtD P t (.sl own n len cells) (.int k i) = if 0 ≤ i ∧ i < len then some (.eptr cells (i.toNat * n)) else none := by
  simp only [indexAtD, hu, hs, and_true]
theorem natD_cast {k : IntKind} {n : Nat} : natD (.int k (n : Int)) = some n := by simp [natD]
theorem natD_nn {k : IntKind} {i : Int} (h : 0 ≤ i) : natD (.int k i) = some i.toNat := by simp [natD, h]
theorem optNatD_none : optNatD none = some none := rfl
theorem optNatD_some {d : D} : optNatD (some d) = (natD d).map some := rfl
/-- A slice of a slice, its bounds known. -/
def cutD (own : Option Nat) (n len : Nat) (cells : List D) (l h : Nat) (m : Option Nat) : Option D :=
  if l ≤ h ∧ h ≤ m.getD len ∧ m.getD len ≤ len then
    if m.isSome = true ∧ m.getD len = l then some .sl0 else some (.sl (if h = len then own else none) n (h - l) ((cells.drop (l * n)).take ((h - l) * n)))
  else none
theorem cut_sl {t e n : Nat} (hu : P.underlying t = some (.slice e)) (hs : sizeA P e = some n) {own : Option Nat} {len : Nat} {cells : List D} {lo hi mx : Option D} :
    sliceD P t (.sl own n len cells) lo hi mx = (optNatD lo).bind fun l => (optNatD hi).bind fun h => (optNatD mx).bind fun m => if m.isSome = true ∧ h.isNone = true then none else cutD own n len cells (l.getD 0) (h.getD len) m := by
  unfold sliceD
  rw [hu]
  cases optNatD lo <;> cases optNatD hi <;> cases optNatD mx <;> simp [hs, cutD]
  rename_i l h m
  by_cases hc : m.isSome = true ∧ h = none
  · simp [hc]
  · simp [hc]
theorem cut_str {t : Nat} (hu : P.underlying t = some .string) {s : ByteArray} {lo hi : Option D} :
    sliceD P t (.str s) lo hi none = (optNatD lo).bind fun l => (optNatD hi).bind fun h => if l.getD 0 ≤ h.getD s.size ∧ h.getD s.size ≤ s.size then some (.str (s.extract (l.getD 0) (h.getD s.size))) else none := by
  unfold sliceD
  rw [hu]
  cases optNatD lo <;> cases optNatD hi <;> simp [optNatD]
theorem len_str {at_ : Array TypeId} {t : Nat} (h : at_[0]? = some t) (hu : P.underlying t = some .string) {s : ByteArray} : builtinD P .len at_ [.str s] S = some (.int .i64 s.size, S) := by simp [builtinD, h, hu]
theorem len_sl {at_ : Array TypeId} {t e : Nat} (h : at_[0]? = some t) (hu : P.underlying t = some (.slice e)) {own : Option Nat} {n len : Nat} {cells : List D} : builtinD P .len at_ [.sl own n len cells] S = some (.int .i64 len, S) := by simp [builtinD, h, hu]
theorem len_nil {at_ : Array TypeId} {t e : Nat} (h : at_[0]? = some t) (hu : P.underlying t = some (.slice e)) : builtinD P .len at_ [.nils] S = some (.int .i64 0, S) := by simp [builtinD, h, hu]
theorem len_slx {at_ : Array TypeId} {t e : Nat} (h : at_[0]? = some t) (hu : P.underlying t = some (.slice e)) : builtinD P .len at_ [.slx] S = some (.int .i64 0, S) := by simp [builtinD, h, hu]
theorem len_nil0 {at_ : Array TypeId} {t e : Nat} (h : at_[0]? = some t) (hu : P.underlying t = some (.slice e)) : builtinD P .len at_ [.sl0] S = some (.int .i64 0, S) := by simp [builtinD, h, hu]

/-- A byte of a text. -/
def indexStr (x i : D) (S : Mem) : Option (D × Mem) := match x, i with | .str s, .int _ i => if 0 ≤ i then (s.data[i.toNat]?).map fun b => (.int .u8 b.toNat, S) else none | _, _ => none
theorem ix_str {t : Nat} (hu : P.underlying t = some .string) {x i : Operand} : opD P ρ (.index t x i) S = indexStr (evalD ρ x) (evalD ρ i) S := by
  simp only [opD, hu, indexStr]
  cases evalD ρ x <;> cases evalD ρ i <;> rfl
theorem indexStr_cast {s : ByteArray} {n : Nat} {k : IntKind} (h : n < s.size) : indexStr (.str s) (.int k (n : Int)) S = some (.int .u8 (s.data[n]'h).toNat, S) := by
  have : n < s.data.size := h
  simp only [indexStr, Int.natCast_nonneg, if_true, Int.toNat_natCast, Array.getElem?_eq_getElem this, Option.map_some]
/-- What append asks. -/
def fitsD (bytes n : Nat) (new : List D) : Prop := n * bytes ≤ 2 ^ 47 ∧ n < 2 ^ 62 ∧ 0 < bytes ∧ new.all D.one = true
instance {b n : Nat} {new : List D} : Decidable (fitsD b n new) := by unfold fitsD; infer_instance
/-- The facts on an element's type that append needs. -/
structure ElemT (P : Program) (t e n bytes : Nat) : Prop where
  u : P.underlying t = some (.slice e)
  info : ∃ i z, P.info? e = some i ∧ i.size = n ∧ i.bytes = bytes ∧ i.zero = some z ∧ z.cells.size = n
theorem ap_nils {t e n bytes : Nat} (h : ElemT P t e n bytes) {own : Option Nat} {m : Nat} {new : List D} :
    appendD P #[t, t] .nils (.sl own n m new) S = if m = 0 then some (.nils, S) else if fitsD bytes m new then some (.sl (some S.length) n m new, S ++ [.own]) else none := by
  obtain ⟨hu, i, z, hi, rfl, rfl, hz, hs⟩ := h
  simp [appendD, hu, hi, hz, hs, elemsD, fitsD]
theorem ap_sl0 {t e n bytes : Nat} (h : ElemT P t e n bytes) {own : Option Nat} {m : Nat} {new : List D} :
    appendD P #[t, t] .sl0 (.sl own n m new) S = if m = 0 then some (.sl0, S) else if fitsD bytes m new then some (.sl (some S.length) n m new, S ++ [.own]) else none := by
  obtain ⟨hu, i, z, hi, rfl, rfl, hz, hs⟩ := h
  simp [appendD, hu, hi, hz, hs, elemsD, fitsD]
theorem ap_own {t e n bytes : Nat} (h : ElemT P t e n bytes) {own : Option Nat} {id m len : Nat} {cells new : List D} :
    appendD P #[t, t] (.sl (some id) n len cells) (.sl own n m new) S = if m = 0 then some (.sl (some id) n len cells, S) else if fitsD bytes (len + m) new then (match S[id]? with | some .own => some (.sl (some S.length) n (len + m) (cells ++ new), S.set id .dead ++ [.own]) | _ => none) else none := by
  obtain ⟨hu, i, z, hi, rfl, rfl, hz, hs⟩ := h
  simp [appendD, hu, hi, hz, hs, elemsD, fitsD]
  rfl

theorem ap_zero {t e n bytes : Nat} (h : ElemT P t e n bytes) {s x : D} (hx : elemsD n x = some (0, [])) (hs : s = .nils ∨ s = .sl0 ∨ ∃ own len cells, s = .sl own n len cells) : appendD P #[t, t] s x S = some (s, S) := by
  obtain ⟨hu, i, z, hi, rfl, rfl, hz, hss⟩ := h
  rcases hs with rfl | rfl | ⟨own, len, cells, rfl⟩ <;> simp [appendD, hu, hi, hz, hss, hx]
theorem eq_nils {t e : Nat} {x y : Operand} (hu : P.underlying t = some (.slice e)) : binD P .eql t x y .nils .nils = some (.bool true) ∧ binD P .eql t x y .slx .nils = some (.bool false) ∧ (∀ {own sz n cells}, binD P .eql t x y (.sl own sz (n + 1) cells) .nils = some (.bool false)) ∧
    binD P .neq t x y .nils .nils = some (.bool false) ∧ binD P .neq t x y .slx .nils = some (.bool true) ∧ (∀ {own sz n cells}, binD P .neq t x y (.sl own sz (n + 1) cells) .nils = some (.bool true)) := by
  refine ⟨?_, ?_, ?_, ?_, ?_, ?_⟩ <;> simp [binD, toV, toS, binV, binA, nilEq, nilEqD, hu, ofV, ofS]
theorem bin_int {op : BinOp} {t : TypeId} {x y : Operand} {k : IntKind} {a b : Int} {v : Value} (h : intBin op k a b = some v) (hop : (match op with | .shl | .shr | .and | .or | .xor | .andNot => false | _ => true) = true) : binD P op t x y (.int k a) (.int k b) = some (ofV v) := by
  cases op <;> first | (cases hop; done) | (simp only [binD, toV, toS, binV, binA, if_true]; simp only [h]; rfl)
theorem bin_str {op : BinOp} {t : TypeId} {x y : Operand} {a b : ByteArray} {v : Value} (h : strBin op a b = some v) : binD P op t x y (.str a) (.str b) = some (ofV v) := by
  simp only [binD, toV, toS, binV, binA, h]; rfl

/-- What a walk rewrites by. -/
theorem Z :
    (∀ {i : Nat} {d : D} {l : List (Nat × D)}, envL ((i, d) :: l) i = d) ∧
    (∀ {o off : Nat} {S : Mem}, cellsAt (.ptr o off) S = (objAt S o).map (·, off)) ∧
    (∀ {c : List D} {off : Nat} {S : Mem}, cellsAt (.eptr c off) S = some (c, off)) ∧
    (∀ {S E : Mem} {n : Nat}, objAt (S ++ E) (S.length + n) = objAt E n) ∧
    (∀ {S E : Mem}, objAt (S ++ E) S.length = objAt E 0) ∧
    (∀ {c : List D} {E : Mem}, objAt (.obj c :: E) 0 = some c) ∧
    (∀ {x : Ob} {E : Mem} {n : Nat}, objAt (x :: E) (n + 1) = objAt E n) ∧
    (∀ {S E : Mem} {n : Nat} {x : Ob}, (S ++ E).set (S.length + n) x = S ++ E.set n x) ∧
    (∀ {S E : Mem} {x : Ob}, (S ++ E).set S.length x = S ++ E.set 0 x) ∧
    (∀ {P t x y k a b}, binD P .add t x y (.int k a) (.int k b) = some (.int k (k.wrap (a + b))) ∧ binD P .sub t x y (.int k a) (.int k b) = some (.int k (k.wrap (a - b))) ∧ binD P .mul t x y (.int k a) (.int k b) = some (.int k (k.wrap (a * b))) ∧
      binD P .eql t x y (.int k a) (.int k b) = some (.bool (a == b)) ∧ binD P .neq t x y (.int k a) (.int k b) = some (.bool (a != b)) ∧ binD P .lss t x y (.int k a) (.int k b) = some (.bool (decide (a < b))) ∧ binD P .leq t x y (.int k a) (.int k b) = some (.bool (decide (a ≤ b))) ∧
      binD P .gtr t x y (.int k a) (.int k b) = some (.bool (decide (a > b))) ∧ binD P .geq t x y (.int k a) (.int k b) = some (.bool (decide (a ≥ b)))) ∧
    (∀ {P t x y a b}, binD P .eql t x y (.str a) (.str b) = some (.bool (decide (a = b))) ∧ binD P .neq t x y (.str a) (.str b) = some (.bool !(decide (a = b))) ∧ binD P .lss t x y (.str a) (.str b) = some (.bool (Op.bytesLess a.toList b.toList)) ∧
      binD P .gtr t x y (.str a) (.str b) = some (.bool !(Op.bytesLess a.toList b.toList || decide (a = b))) ∧ binD P .leq t x y (.str a) (.str b) = some (.bool (Op.bytesLess a.toList b.toList || decide (a = b))) ∧ binD P .geq t x y (.str a) (.str b) = some (.bool !(Op.bytesLess a.toList b.toList))) ∧
    (∀ {P ρ t x S}, opD P ρ (.unOp .not t x) S = match evalD ρ x with | .bool b => some (.bool !b, S) | _ => none) ∧
    (∀ {P ρ x i S}, opD P ρ (.extract x i) S = match evalD ρ x with | .tup vs => (vs[i]?).map (·, S) | _ => none) ∧
    (∀ {xs}, cellsD (.agg xs) = some xs) ∧ (∀ {k n}, cellsD (.int k n) = some [.int k n]) ∧ (∀ {b}, cellsD (.bool b) = some [.bool b]) ∧ (∀ {b}, cellsD (.str b) = some [.str b]) ∧ (cellsD .nils = some [.nils]) ∧ (cellsD .sl0 = some [.sl0]) ∧ (∀ {o z l c}, cellsD (.sl o z l c) = some [.sl o z l c]) ∧
    (∀ {o f}, cellsD (.ptr o f) = some [.ptr o f]) ∧ (∀ {f a b}, cellsD (.fn f a b) = some [.fn f a b]) ∧ (cellsD .nilp = some [.nilp]) ∧
    (∀ {k n}, D.one (.int k n) = true) ∧ (∀ {b}, D.one (.bool b) = true) ∧ (∀ {b}, D.one (.str b) = true) ∧ (D.one .nils = true) ∧ (D.one .sl0 = true) ∧ (∀ {o z l c}, D.one (.sl o z l c) = true) ∧ (∀ {o f}, D.one (.ptr o f) = true) ∧ (D.one .nilp = true) ∧
    (∀ {α : Type} {cs : List α} {o : Nat}, wr cs o [] = cs) ∧ (∀ {α : Type} {cs vs : List α} {o : Nat} {v : α}, wr cs o (v :: vs) = wr (cs.set o v) (o + 1) vs) ∧
    (∀ {b : Bool}, ofV (.bool b) = .bool b) ∧ (∀ {k n}, ofV (.int k n) = .int k n) ∧ (∀ {s}, ofV (.string s) = .str s) ∧ (ofV (.slice none 0 0) = .nils) ∧ (ofV (.pointer none) = .nilp) ∧
    (∀ {b : Bool}, ofS (.bool b) = .bool b) ∧ (∀ {k n}, ofS (.int k n) = .int k n) ∧ (∀ {s}, ofS (.string s) = .str s) ∧ (ofS (.slice none 0 0) = .nils) ∧ (ofS (.pointer none) = .nilp) := by
  refine ⟨envL_eq, rfl, rfl, objAt_app, objAt_app0, rfl, objAt_succ, set_app, set_app0, ?_, ?_, ?_, rfl, rfl, rfl, rfl, rfl, rfl, rfl, rfl, rfl, rfl, rfl, rfl, rfl, rfl, rfl, rfl, rfl, rfl, rfl, rfl, rfl, rfl, rfl, rfl, rfl, rfl, rfl, rfl, rfl, rfl, rfl⟩
  rotate_left
  · intro P t x y a b
    have e : (a.toList == b.toList) = decide (a = b) := str_eq
    refine ⟨?_, ?_, bin_str (v := .bool (Op.bytesLess a.toList b.toList)) rfl, ?_, ?_, bin_str (v := .bool !(Op.bytesLess a.toList b.toList)) rfl⟩
    · rw [bin_str (v := .bool (a.toList == b.toList)) rfl, e]; rfl
    · rw [bin_str (v := .bool !(a.toList == b.toList)) rfl, e]; rfl
    · rw [bin_str (v := .bool !(Op.bytesLess a.toList b.toList || a.toList == b.toList)) rfl, e]; rfl
    · rw [bin_str (v := .bool (Op.bytesLess a.toList b.toList || a.toList == b.toList)) rfl, e]; rfl
  · intro P ρ t x S
    cases h : evalD ρ x <;> simp [opD, h]
  · intro P t x y k a b
    exact ⟨bin_int (v := .int k (k.wrap (a + b))) rfl rfl, bin_int (v := .int k (k.wrap (a - b))) rfl rfl, bin_int (v := .int k (k.wrap (a * b))) rfl rfl, bin_int (v := .bool (a == b)) rfl rfl, bin_int (v := .bool (a != b)) rfl rfl, bin_int (v := .bool (decide (a < b))) rfl rfl, bin_int (v := .bool (decide (a ≤ b))) rfl rfl, bin_int (v := .bool (decide (a > b))) rfl rfl, bin_int (v := .bool (decide (a ≥ b))) rfl rfl⟩
end
end Go.DM
namespace Go.DM
open Go Go.AM
section
variable {P : Program} {S : Mem}
def placesA (P : Program) (t : TypeId) : Option (List (Nat × Nat)) :=
  match P.underlying t with
  | some (.struct fields) => fields.toList.mapM (fun f => (P.info? f.type).map fun i => (f.offset, i.size))
  | _ => none
/-- What the facts on a type are read from, at once. -/
def tyA (P : Program) (t : TypeId) : Option Nat × Option Nat × Option Value × Option (List (Nat × Nat)) := (sizeA P t, (P.info? t).map (·.bytes), zeroA P t, placesA P t)
theorem elemT_at {t e n b : Nat} {z : Value} (hu : P.underlying t = some (.slice e)) (h1 : sizeA P e = some n) (h2 : (P.info? e).map (·.bytes) = some b) (h3 : zeroA P e = some z) (h4 : z.cells.size = n) : ElemT P t e n b := by
  cases hi : P.info? e with
  | none => simp [sizeA, hi] at h1
  | some i =>
    simp only [sizeA, zeroA, hi, Option.map_some, Option.some.injEq, Option.bind_some] at h1 h2 h3
    exact ⟨hu, i, z, hi, h1, h2, h3, h4⟩
theorem bd_struct {t : TypeId} {fields : Array Field} {pl : List (Nat × Nat)} {z : Value} (hu : P.underlying t = some (.struct fields)) (hp : placesA P t = some pl) (hz : zeroA P t = some z) (hs : z.cells.all scalarV = true) {ps : List (Nat × D)} :
    buildD P t ps = (fillD (fun i => pl[i]?) (z.cells.toList.map ofS) ps).map .agg := by
  simp only [placesA, hu] at hp
  unfold zeroA at hz
  cases hi : P.info? t with
  | none => rw [hi] at hz; cases hz
  | some it =>
    rw [hi] at hz
    simp only [Option.bind_some] at hz
    simp only [buildD, hi, hu, hz, hp, hs, if_true, List.getElem?_toArray]
theorem bs_slice {t e n : TypeId} {z : Value} (hu : P.underlying t = some (.slice e)) (hs : sizeA P e = some n) (hz : zeroA P e = some z) (hc : z.cells.all scalarV = true) (hl : z.cells.size = n) {len : Nat} {ps : List (Nat × D)} :
    buildSliceD P t len ps S = if len * n > 2 ^ 24 then none else (fillD (fun i => some (i * n, n)) (repD (z.cells.toList.map ofS) len) ps).bind fun cells => if cells.all D.one = true then some (.sl (some S.length) n len cells, S ++ [.own]) else none := by
  have hk : (len * n > 2 ^ 24 ∨ z.cells.all scalarV = false ∨ z.cells.size ≠ n) = (len * n > 2 ^ 24) := by
    apply propext
    constructor
    · rintro (h | h | h)
      · exact h
      · rw [hc] at h; cases h
      · exact absurd hl h
    · exact fun h => .inl h
  simp only [buildSliceD, hu, hs, hz, Option.bind_eq_bind, Option.bind_some, hk]
theorem fillD_nil {pl : Nat → Option (Nat × Nat)} {cs : List D} : fillD pl cs [] = some cs := rfl
theorem fillD_cons {pl : Nat → Option (Nat × Nat)} {cs : List D} {i : Nat} {v : D} {rest : List (Nat × D)} :
    fillD pl cs ((i, v) :: rest) = (pl i).bind fun p => (cellsD v).bind fun xs => if xs.length = p.2 ∧ p.1 + p.2 ≤ cs.length then fillD pl (wr cs p.1 xs) rest else none := by
  simp only [fillD]
  cases pl i with
  | none => rfl
  | some p =>
    obtain ⟨off, size⟩ := p
    cases cellsD v with
    | none => rfl
    | some xs => rfl
theorem repD_one {α : Type} {xs : List α} : repD xs 1 = xs := by simp [repD]
theorem repD_zero {α : Type} {xs : List α} : repD xs 0 = [] := rfl
end
end Go.DM
namespace Go.DM
open Go Go.AM
def optThen {α : Type} (x : Option α) (F : α → Prop) : Prop := match x with | some v => F v | none => False
theorem optThen_some {α : Type} {v : α} {F : α → Prop} : optThen (some v) F = F v := rfl
theorem fin {α : Type} {x : Option α} {F : α → Prop} (h : optThen x F) : ∃ v, x = some v ∧ F v := by
  cases x with
  | none => exact h.elim
  | some v => exact ⟨v, rfl, h⟩
section
variable {P : Program} {fn : Func} {ρ : DEnv} {S : Mem}
theorem resD_tmp {t : Tmp} (h : fn.results = #[.tmp t]) : resultsD P fn ρ S = some (ρ t) := by simp [resultsD, h, resultD]
theorem resD_cell {t : Tmp} {ty : TypeId} (h : fn.results = #[.cell t ty]) : resultsD P fn ρ S = loadD P ty (ρ t) S := by simp [resultsD, h, resultD]
theorem resD_two {x y : ResultVar} (h : fn.results = #[x, y]) : resultsD P fn ρ S = (resultD P ρ S x).bind fun a => (resultD P ρ S y).bind fun b => some (.tup [a, b]) := by
  simp only [resultsD, h, resultsL]
  cases resultD P ρ S x with
  | none => rfl
  | some a =>
    cases resultD P ρ S y with
    | none => rfl
    | some b => rfl
theorem resD_three {x y z : ResultVar} (h : fn.results = #[x, y, z]) : resultsD P fn ρ S = (resultD P ρ S x).bind fun a => (resultD P ρ S y).bind fun b => (resultD P ρ S z).bind fun c => some (.tup [a, b, c]) := by
  simp only [resultsD, h, resultsL]
  cases resultD P ρ S x with
  | none => rfl
  | some a =>
    cases resultD P ρ S y with
    | none => rfl
    | some b =>
      cases resultD P ρ S z with
      | none => rfl
      | some c => rfl
theorem resD_none (h : fn.results = #[]) : resultsD P fn ρ S = some (.tup []) := by simp [resultsD, h, resultsL]
theorem resultD_tmp {t : Tmp} : resultD P ρ S (.tmp t) = some (ρ t) := rfl
theorem resultD_cell {t : Tmp} {ty : TypeId} : resultD P ρ S (.cell t ty) = loadD P ty (ρ t) S := rfl
end
theorem Wk.int {n : Nat} {k x} : Wk n (.int k x) (.int k x) := .of_low (.int k x)
theorem Wk.bool {n : Nat} {x} : Wk n (.bool x) (.bool x) := .of_low (.bool x)
theorem Wk.str {n : Nat} {x} : Wk n (.str x) (.str x) := .of_low (.str x)
inductive LowL (n : Nat) : List D → Prop
  | nil : LowL n []
  | cons {x xs} (h : DLow n x) (hs : LowL n xs) : LowL n (x :: xs)
theorem LowL.get {n xs} (h : LowL n xs) : ∀ i (h : i < xs.length), DLow n xs[i] := by
  induction h with
  | nil => intro i h; simp at h
  | cons h _ ih =>
    intro i hi
    cases i with
    | zero => exact h
    | succ i => exact ih i (by simpa using hi)
theorem LowL.append {n xs ys} (h : LowL n xs) (k : LowL n ys) : LowL n (xs ++ ys) := by
  induction h with
  | nil => exact k
  | cons h _ ih => exact .cons h ih
theorem LowL.of_mem {n : Nat} : ∀ {xs : List D}, (∀ x ∈ xs, DLow n x) → LowL n xs
  | [], _ => .nil
  | x :: xs, h => .cons (h x (by simp)) (LowL.of_mem fun y hy => h y (by simp [hy]))
theorem DLow.agg' {n xs} (h : LowL n xs) : DLow n (.agg xs) := .agg xs h.get
theorem DLow.tup' {n xs} (h : LowL n xs) : DLow n (.tup xs) := .tup xs h.get
theorem DLow.sl' {n sz len xs} (h : LowL n xs) : DLow n (.sl none sz len xs) := .sl none sz len xs (fun _ e => by cases e) h.get
end Go.DM
namespace Go.DM
open Go Go.AM
theorem wrap64 {x : Int} (h1 : -9223372036854775808 ≤ x) (h2 : x ≤ 9223372036854775807) : IntKind.i64.wrap x = x := by
  rw [IntKind.wrap_i64]; omega
theorem wrapu64 {x : Int} (h1 : 0 ≤ x) (h2 : x ≤ 18446744073709551615) : IntKind.u64.wrap x = x := by
  exact IntWalk.u64_in x ⟨h1, h2⟩
theorem wrap_succ {i : Nat} (h : i < 4611686018427387904) : IntKind.i64.wrap ((i : Int) + 1) = ((i + 1 : Nat) : Int) := by rw [wrap64 (by omega) (by omega)]; omega

section
variable {α : Type} {f : α → List D} {n : Nat}
theorem flat_length (hf : ∀ x, (f x).length = n) : ∀ (l : List α), (l.flatMap f).length = l.length * n
  | [] => by simp
  | x :: l => by simp only [List.flatMap_cons, List.length_append, hf, flat_length hf l, List.length_cons, Nat.add_mul]; omega
theorem flat_drop (hf : ∀ x, (f x).length = n) : ∀ (l : List α) (i : Nat), (l.flatMap f).drop (i * n) = (l.drop i).flatMap f
  | l, 0 => by simp
  | [], i + 1 => by simp
  | x :: l, i + 1 => by
    simp only [List.flatMap_cons, List.drop_succ_cons]
    rw [Nat.add_mul, Nat.one_mul, Nat.add_comm, ← List.drop_drop]
    have : (f x ++ l.flatMap f).drop n = l.flatMap f := by rw [← hf x]; simp
    rw [this, flat_drop hf l i]
theorem flat_cell (hf : ∀ x, (f x).length = n) (l : List α) (i : Nat) (h : i < l.length) {k : Nat} (hk : k < n) : (l.flatMap f)[i * n + k]? = (f l[i])[k]? := by
  rw [← List.getElem?_drop, flat_drop hf, List.drop_eq_getElem_cons h, List.flatMap_cons, List.getElem?_append_left (by rw [hf]; exact hk)]
theorem flat_cell0 (hf : ∀ x, (f x).length = n) (l : List α) (i : Nat) (h : i < l.length) (hk : 0 < n) : (l.flatMap f)[i * n]? = (f l[i])[0]? := flat_cell hf l i h hk
theorem flat_part (hf : ∀ x, (f x).length = n) (l : List α) (i : Nat) (h : i < l.length) {a b : Nat} (hk : a + b ≤ n) : ((l.flatMap f).drop (i * n + a)).take b = ((f l[i]).drop a).take b := by
  rw [← List.drop_drop, flat_drop hf, List.drop_eq_getElem_cons h, List.flatMap_cons, List.drop_append_of_le_length (by rw [hf]; omega), List.take_append_of_le_length (by rw [List.length_drop, hf]; omega)]
theorem flat_all (hf : ∀ x, (f x).length = n) (l : List α) (i : Nat) (h : i < l.length) : ((l.flatMap f).drop (i * n)).take n = f l[i] := by
  have := flat_part hf l i h (a := 0) (b := n) (by omega)
  rw [Nat.add_zero, List.drop_zero] at this
  rw [this, List.take_of_length_le (by rw [hf]; exact Nat.le_refl _)]
theorem flat_fits (hf : ∀ x, (f x).length = n) (l : List α) (i : Nat) (h : i < l.length) {a b : Nat} (hk : a + b ≤ n) : (i * n + a + b ≤ (l.flatMap f).length) = True := by
  rw [flat_length hf]
  simp only [eq_iff_iff, iff_true]
  have : (i + 1) * n ≤ l.length * n := Nat.mul_le_mul_right _ h
  rw [Nat.add_mul] at this
  omega
theorem flat_fits0 (hf : ∀ x, (f x).length = n) (l : List α) (i : Nat) (h : i < l.length) : (i * n + n ≤ (l.flatMap f).length) = True := flat_fits hf l i h (a := 0) (b := n) (by omega)
end
theorem ix_ok {i n : Nat} (h : i < n) : (0 ≤ (i : Int) ∧ (i : Int) < (n : Int)) = True := by simp; omega
end Go.DM
namespace Go.DM
open Go Go.AM
theorem builtin_append {P : Program} {at_ : Array TypeId} {s x : D} {S : Mem} : builtinD P .append at_ [s, x] S = appendD P at_ s x S := rfl
/-- A slice that may grow, with its right to. -/
def AccD (b : Nat) (o : D) (n len : Nat) (cells : List D) (S : Mem) : Prop := (o = .nils ∧ len = 0 ∧ cells = []) ∨ (o = .sl0 ∧ len = 0 ∧ cells = []) ∨ ∃ id, b ≤ id ∧ o = .sl (some id) n len cells ∧ S[id]? = some .own
/-- What append makes. -/
structure Grown (b : Nat) (S S' : Mem) : Prop where
  len : S.length ≤ S'.length
  pre : ∀ E, ∀ S0 : Mem, S0.length = b → S = S0 ++ E → ∃ E', S' = S0 ++ E'
  obj : ∀ o c, objAt S o = some c → objAt S' o = some c
theorem Grown.refl {b S} : Grown b S S := ⟨Nat.le_refl _, fun E _ _ h => ⟨E, h⟩, fun _ _ h => h⟩
theorem Grown.trans {b S S1 S2} (x : Grown b S S1) (y : Grown b S1 S2) : Grown b S S2 :=
  ⟨Nat.le_trans x.len y.len, fun E S0 h e => by obtain ⟨E1, e1⟩ := x.pre E S0 h e; exact y.pre E1 S0 h e1, fun o c h => y.obj o c (x.obj o c h)⟩
theorem Grown.app {b : Nat} {S E : Mem} : Grown b S (S ++ E) := ⟨by simp, fun E0 S0 _ h => ⟨E0 ++ E, by rw [h]; simp⟩, fun _ _ h => objAt_old h⟩
theorem AccD.app {b o n len cells S} (h : AccD b o n len cells S) (E : Mem) : AccD b o n len cells (S ++ E) := by
  rcases h with h | h | ⟨id, h1, h2, h3⟩
  · exact .inl h
  · exact .inr (.inl h)
  · exact .inr (.inr ⟨id, h1, h2, by rw [List.getElem?_append_left (List.getElem?_eq_some_iff.1 h3).1]; exact h3⟩)
theorem AccD.wf {b o n len cells S} (h : AccD b o n len cells S) : Wf o (.sl none n len cells) := by
  rcases h with ⟨rfl, rfl, rfl⟩ | ⟨rfl, rfl, rfl⟩ | ⟨id, _, rfl, _⟩
  · exact .nilE
  · exact .sl0E
  · exact .disown
theorem AccD.append {P : Program} {b t e n bytes len m : Nat} {o : D} {own : Option Nat} {cells new : List D} {S : Mem} (h : ElemT P t e n bytes) (ha : AccD b o n len cells S) (hb : b ≤ S.length) (hm : m ≠ 0) (hf : fitsD bytes (len + m) new) :
    ∃ o' S', appendD P #[t, t] o (.sl own n m new) S = some (o', S') ∧ AccD b o' n (len + m) (cells ++ new) S' ∧ Grown b S S' := by
  rcases ha with ⟨rfl, rfl, rfl⟩ | ⟨rfl, rfl, rfl⟩ | ⟨id, h1, rfl, h3⟩
  · rw [Nat.zero_add] at hf
    refine ⟨_, _, by rw [ap_nils h, if_neg hm, if_pos hf], .inr (.inr ⟨S.length, hb, by simp, by simp⟩), .app⟩
  · rw [Nat.zero_add] at hf
    refine ⟨_, _, by rw [ap_sl0 h, if_neg hm, if_pos hf], .inr (.inr ⟨S.length, hb, by simp, by simp⟩), .app⟩
  · refine ⟨_, _, by rw [ap_own h, if_neg hm, if_pos hf, h3], .inr (.inr ⟨S.length, hb, rfl, by simp⟩), ⟨by simp, fun E S0 hl he => ?_, fun o c ho => ?_⟩⟩
    · subst he
      refine ⟨E.set (id - S0.length) .dead ++ [.own], ?_⟩
      rw [List.set_append_right _ _ (by omega)]
      simp
    · have hne : id ≠ o := by rintro rfl; rw [objAt_some ho] at h3; cases h3
      refine objAt_old ?_
      unfold objAt at ho ⊢
      rwa [List.getElem?_set_ne hne]
theorem all_false_at {α : Type} {p : α → Bool} {l : List α} {i : Nat} (h : i < l.length) (hp : p l[i] = false) : l.all p = false := by rw [List.all_eq_false]; exact ⟨l[i], List.getElem_mem _, by simp [hp]⟩
theorem all_true_of {α : Type} {p : α → Bool} {l : List α} (h : ∀ j (hj : j < l.length), p l[j] = true) : l.all p = true := by
  rw [List.all_eq_true]
  intro x hx
  obtain ⟨j, hj, rfl⟩ := List.mem_iff_getElem.1 hx
  exact h j hj
end Go.DM
namespace Go.DM
open Go Go.AM
section
variable {P : Program} {orc : DOracle} {S : Mem} {f : FuncId} {args : List D}
theorem CallD.ret {X : D} {Q : D → Mem → Prop} (h : CallD P orc f args S fun d S' => S' = S ∧ d = X) (hq : Q X S) : CallD P orc f args S Q := h.mono (by rintro d S' ⟨rfl, rfl⟩; exact hq)
theorem CallD.retE {R : D → Prop} {Q : D → Mem → Prop} (h : CallD P orc f args S fun d S' => S' = S ∧ R d) (hq : ∀ d, R d → Q d S) : CallD P orc f args S Q := h.mono (by rintro d S' ⟨rfl, hr⟩; exact hq d hr)
end
end Go.DM
namespace Go.DM
open Go Go.AM
section
variable {P : Program} {orc : DOracle} {fl sz : Nat} {k : List K} {ρ : DEnv} {H : Mem} {Q : AExit → DEnv → Mem → Prop} {ops : Array Oper} {loose : List Nat} {Inv : Mem → Prop} {F : Nat}
theorem GoW.readT {i : Nat} {os : List Oper} {dst : Option Tmp} {op : Op} {ty : TypeId} {pos : String} {after : Array Edge} (hd : okDst sz dst) (hc : op.operands.toList.all okOperand = true)
    (h : opThen (opD P ρ op H) fun v H1 => H1 = H ∧ Inv H ∧ (∀ H', Inv H' → opD P ρ op H' = some (v, H')) ∧ GoW P orc fl sz ops loose Inv F (i + 1) os k (putD ρ dst v) H Q) : GoW P orc fl sz ops loose Inv F i (⟨dst, op, ty, pos, after, none⟩ :: os) k ρ H Q := by
  cases hop : opD P ρ op H with
  | none => rw [hop] at h; exact h.elim
  | some r =>
    obtain ⟨v, H1⟩ := r
    rw [hop] at h
    obtain ⟨_, hi, hr, h⟩ := h
    exact GoW.read hd hc hi hr h
theorem GoW.readTG {i : Nat} {os : List Oper} {dst : Option Tmp} {op : Op} {ty : TypeId} {pos : String} {after : Array Edge} {g : Nat × Bool} (hd : okDst sz dst) (hc : op.operands.toList.all okOperand = true)
    (hw : (yieldedD ops ρ g.1 == some g.2) = true) (h : opThen (opD P ρ op H) fun v H1 => H1 = H ∧ Inv H ∧ (∀ H', Inv H' → opD P ρ op H' = some (v, H')) ∧ GoW P orc fl sz ops loose Inv F (i + 1) os k (putD ρ dst v) H Q) : GoW P orc fl sz ops loose Inv F i (⟨dst, op, ty, pos, after, some g⟩ :: os) k ρ H Q := by
  cases hop : opD P ρ op H with
  | none => rw [hop] at h; exact h.elim
  | some r =>
    obtain ⟨v, H1⟩ := r
    rw [hop] at h
    obtain ⟨_, hi, hr, h⟩ := h
    exact GoW.readG hd hc hw hi hr h
end
end Go.DM
namespace Go.DM
open Go Go.AM
section
variable {P : Program} {S : Mem} {ρ : DEnv}
theorem bin_and {t : TypeId} {x y : Operand} {k : IntKind} {a b : Int} : binD P .and t x y (.int k a) (.int k b) = some (.int k (bits .and k a b)) := by
  simp only [binD, toV, toS, binV, binA, if_true, intBits_and, Pure.pure, pureRun]; rfl
theorem bin_or {t : TypeId} {x y : Operand} {k : IntKind} {a b : Int} : binD P .or t x y (.int k a) (.int k b) = some (.int k (bits .or k a b)) := by
  simp only [binD, toV, toS, binV, binA, if_true, show Op.intBits .or k a b = pure (.int k (bits .or k a b)) from rfl, Pure.pure, pureRun]; rfl
theorem bin_shr {t : TypeId} {x y : Operand} {k k' : IntKind} {a b : Int} (h : 0 ≤ b) : binD P .shr t x y (.int k a) (.int k' b) = some (.int k (a.fdiv (2 ^ (min b.toNat k.bits)))) := by
  simp only [binD, toV, toS, binV, binA, if_neg (show ¬ b < 0 by omega)]; rfl
theorem bin_shl {t : TypeId} {x y : Operand} {k k' : IntKind} {a b : Int} (h : 0 ≤ b) : binD P .shl t x y (.int k a) (.int k' b) = some (.int k (k.wrap (a * 2 ^ (min b.toNat k.bits)))) := by
  simp only [binD, toV, toS, binV, binA, if_neg (show ¬ b < 0 by omega)]; rfl
theorem bin_quo {t : TypeId} {x y : Operand} {k : IntKind} {a b : Int} (h : (b = 0) = False) : binD P .quo t x y (.int k a) (.int k b) = some (.int k (k.wrap (a.tdiv b))) := by
  simp only [binD, toV, toS, binV, binA, if_true, intBin, h, if_false]; rfl
theorem bin_rem {t : TypeId} {x y : Operand} {k : IntKind} {a b : Int} (h : (b = 0) = False) : binD P .rem t x y (.int k a) (.int k b) = some (.int k (a.tmod b)) := by
  simp only [binD, toV, toS, binV, binA, if_true, intBin, h, if_false]; rfl
theorem bin_bool {t : TypeId} {x y : Operand} {a b : Bool} (hu : P.underlying t = some .bool) : binD P .eql t x y (.bool a) (.bool b) = some (.bool (a == b)) ∧ binD P .neq t x y (.bool a) (.bool b) = some (.bool !(a == b)) := by
  constructor <;> simp [binD, toV, toS, binV, binA, hu, ofV, ofS]
theorem un_neg {t : TypeId} {x : Operand} : opD P ρ (.unOp .neg t x) S = match evalD ρ x with | .int k n => some (.int k (k.wrap (0 - n)), S) | _ => none := by
  cases h : evalD ρ x <;> simp [opD, h]
theorem conv_int {s d : TypeId} {k1 k2 k : IntKind} {n : Int} (hs : P.underlying s = some (.int k1)) (hd : P.underlying d = some (.int k)) : convD P s d (.int k2 n) S = some (.int k (k.wrap n), S) := by
  simp only [convD, hs, hd]
theorem conv_str {s d : TypeId} {a : ByteArray} (hs : P.underlying s = some .string) (hd : P.underlying d = some .string) : convD P s d (.str a) S = some (.str a, S) := by
  simp only [convD, hs, hd]
end
theorem flat_take_succ {α : Type} {f : α → List D} {l : List α} {i : Nat} (h : i < l.length) : (l.take (i + 1)).flatMap f = (l.take i).flatMap f ++ f l[i] := by
  rw [← List.take_append_getElem h, List.flatMap_append]; simp only [List.flatMap_cons, List.flatMap_nil, List.append_nil]
end Go.DM
namespace Go.DM
open Go Go.AM
theorem indexStr_zero {S : Mem} {s : ByteArray} {k : IntKind} (h : 0 < s.size) : indexStr (.str s) (.int k 0) S = some (.int .u8 (s.data[0]'h).toNat, S) := indexStr_cast (n := 0) h
end Go.DM
namespace Go.DM
open Go Go.AM
theorem own_app {S E : Mem} {n : Nat} : (S ++ E)[S.length + n]? = E[n]? := by simp [List.getElem?_append_right]
theorem own_app0 {S E : Mem} : (S ++ E)[S.length]? = E[0]? := own_app (n := 0)
end Go.DM
namespace Go.DM
open Go Go.AM
theorem AccD.one {b o n len cells S} (h : AccD b o n len cells S) : D.one o = true ∧ cellsD o = some [o] := by
  rcases h with ⟨rfl, _⟩ | ⟨rfl, _⟩ | ⟨id, _, rfl, _⟩ <;> exact ⟨rfl, rfl⟩
end Go.DM
namespace Go.DM
open Go Go.AM
theorem wr_full' {α : Type} : ∀ (xs pre cs : List α), xs.length = cs.length → wr (pre ++ cs) pre.length xs = pre ++ xs
  | [], pre, [], _ => by simp [wr]
  | [], _, _ :: _, h => by simp at h
  | _ :: _, _, [], h => by simp at h
  | x :: xs, pre, c :: cs, h => by
    simp only [wr]
    have := wr_full' xs (pre ++ [x]) cs (by simpa using h)
    simp only [List.length_append, List.length_cons, List.length_nil, Nat.zero_add, List.append_assoc, List.cons_append, List.nil_append] at this
    rw [← this]
    congr 1
    simp
theorem wr_full {α : Type} {xs cs : List α} (h : xs.length = cs.length) : wr cs 0 xs = xs := wr_full' xs [] cs h
end Go.DM
namespace Go.DM
open Go Go.AM
theorem AccD.set {b o n len cells S j x} (h : AccD b o n len cells S) (hj : j < b) : AccD b o n len cells (S.set j x) := by
  rcases h with h | h | ⟨id, h1, h2, h3⟩
  · exact .inl h
  · exact .inr (.inl h)
  · exact .inr (.inr ⟨id, h1, h2, by rw [List.getElem?_set_ne (by omega)]; exact h3⟩)
end Go.DM
namespace Go.DM
open Go Go.AM
/-- What a walk rewrites by, of lists, options, truth. -/
theorem Y :
    (∀ {S E : Mem} {n : Nat}, (S ++ E)[List.length S + n]? = E[n]?) ∧
    (∀ {S E : Mem}, (S ++ E)[List.length S]? = E[0]?) ∧
    (∀ {P : Program} {t : TypeId} {x y : Operand} {k : IntKind} {a b : Int}, binD P BinOp.and t x y (D.int k a) (D.int k b) = some (D.int k (bits BinOp.and k a b))) ∧
    (∀ {P : Program} {t : TypeId} {x y : Operand} {k : IntKind} {a b : Int}, binD P BinOp.or t x y (D.int k a) (D.int k b) = some (D.int k (bits BinOp.or k a b))) ∧
    (∀ {P : Program} {t : TypeId} {x y : Operand} {k k' : IntKind} {a b : Int}, 0 ≤ b → binD P BinOp.shr t x y (D.int k a) (D.int k' b) = some (D.int k (Int.fdiv a (2 ^ min (Int.toNat b) (IntKind.bits k))))) ∧
    (∀ {P : Program} {t : TypeId} {x y : Operand} {k k' : IntKind} {a b : Int}, 0 ≤ b → binD P BinOp.shl t x y (D.int k a) (D.int k' b) = some (D.int k (IntKind.wrap k (a * 2 ^ min (Int.toNat b) (IntKind.bits k))))) ∧
    (∀ {P : Program} {t : TypeId} {x y : Operand} {k : IntKind} {a b : Int}, (b = 0) = False → binD P BinOp.quo t x y (D.int k a) (D.int k b) = some (D.int k (IntKind.wrap k (Int.tdiv a b)))) ∧
    (∀ {P : Program} {t : TypeId} {x y : Operand} {k : IntKind} {a b : Int}, (b = 0) = False → binD P BinOp.rem t x y (D.int k a) (D.int k b) = some (D.int k (Int.tmod a b))) ∧
    (∀ {ρ : DEnv} {t u : Tmp} {v : D}, (u == t) = false → putD ρ (some t) v u = ρ u) ∧
    (∀ {ρ : DEnv} {v : D}, putD ρ none v = ρ) ∧
    (∀ {k : IntKind} {n : Nat}, natD (D.int k ↑n) = some n) ∧
    (∀ {k : IntKind} {i : Int}, 0 ≤ i → natD (D.int k i) = some (Int.toNat i)) ∧
    (optNatD none = some none) ∧
    (∀ {d : D}, optNatD (some d) = Option.map some (natD d)) ∧
    (∀ {α : Type} {a b : α}, Option.getD (some a) b = a) ∧
    (∀ {α : Type} {a : α}, Option.getD none a = a) ∧
    (∀ {α : Type} {a : α}, Option.isSome (some a) = true) ∧
    (∀ {α : Type}, Option.isSome (none : Option α) = false) ∧
    (∀ {α : Type} {a : α}, Option.isNone (some a) = false) ∧
    (∀ {α : Type}, Option.isNone (none : Option α) = true) ∧
    (∀ (n : Nat), Int.toNat ↑n = n) ∧
    (∀ (n : Nat), 0 ≤ n) ∧
    (∀ (n : Nat), n - 0 = n) ∧
    (∀ (p : Prop), (False ∧ p) = False) ∧
    (∀ (p : Prop), (p ∧ False) = False) ∧
    (∀ {i t : Nat} {d : D} {l : List (Nat × D)}, (t == i) = false → envL ((i, d) :: l) t = envL l t) ∧
    (∀ {pl : Nat → Option (Nat × Nat)} {cs : List D}, fillD pl cs [] = some cs) ∧
    (∀ {pl : Nat → Option (Nat × Nat)} {cs : List D} {i : Nat} {v : D} {rest : List (Nat × D)}, fillD pl cs ((i, v) :: rest) = Option.bind (pl i) fun p => Option.bind (cellsD v) fun xs => if List.length xs = Prod.snd p ∧ Prod.fst p + Prod.snd p ≤ List.length cs then fillD pl (wr cs (Prod.fst p) xs) rest else none) ∧
    (∀ {α : Type} {xs : List α}, repD xs 1 = xs) ∧
    (∀ {α : Type} {xs : List α}, repD xs 0 = []) ∧
    (∀ (n : Nat), 0 + n = n) ∧
    (∀ (n : Nat), n + 0 = n) ∧
    (∀ (n : Nat), 0 * n = 0) ∧
    (∀ (n : Nat), n * 1 = n) ∧
    (∀ (n : Nat), 1 * n = n) ∧
    (∀ (n : Nat), n ≤ n) ∧
    (∀ {α : Type} {β : Type} (a : α) (f : α → β), Option.map f (some a) = some (f a)) ∧
    (∀ {α : Type} {β : Type} (f : α → β), Option.map f none = none) ∧
    (∀ {α : Type} {β : Type} (a : α) (f : α → Option β), Option.bind (some a) f = f a) ∧
    ((false = true) = False) ∧
    ((!true) = false) ∧
    ((!false) = true) ∧
    (∀ (p : Prop), (p ∧ p) = p) ∧
    (∀ (p : Prop), (True ∧ p) = p) ∧
    (∀ (p : Prop), (p ∧ True) = p) ∧
    (∀ {α : Type} {β : Type} {f : α → β} {a : α} {l : List α}, List.map f (a :: l) = f a :: List.map f l) ∧
    (∀ {α : Type} {β : Type} {f : α → β}, List.map f [] = []) ∧
    (∀ {α : Type} {a : α} {as : List α}, List.length (a :: as) = List.length as + 1) ∧
    (∀ {α : Type}, List.length ([] : List α) = 0) ∧
    (∀ {α : Type} {as bs : List α}, List.length (as ++ bs) = List.length as + List.length bs) ∧
    (∀ {α : Type} {a : α} {l : List α}, (a :: l)[0]? = some a) ∧
    (∀ {α : Type} {a : α} {i : Nat} {l : List α}, (a :: l)[i + 1]? = l[i]?) ∧
    (∀ {α : Type} {x : α} {xs : List α} {a : α}, List.set (x :: xs) 0 a = a :: xs) ∧
    (∀ {α : Type} {x : α} {xs : List α} {i : Nat} {a : α}, List.set (x :: xs) (i + 1) a = x :: List.set xs i a) ∧
    (∀ {α : Type} {l : List α}, List.drop 0 l = l) ∧
    (∀ {α : Type} {a : α} {l : List α} {i : Nat}, List.drop (i + 1) (a :: l) = List.drop i l) ∧
    (∀ {α : Type} {a : α} {as : List α} {i : Nat}, List.take (i + 1) (a :: as) = a :: List.take i as) ∧
    (∀ {α : Type} {l : List α}, List.take 0 l = []) ∧
    (∀ {α : Type} {a : α} {l : List α} {f : α → Bool}, List.all (a :: l) f = (f a && List.all l f)) ∧
    (∀ {α : Type} {f : α → Bool}, List.all [] f = true) ∧
    (∀ (b : Bool), (b && b) = b) ∧
    (∀ (b : Bool), (b && true) = b) ∧
    (∀ (b : Bool), (true && b) = b) ∧
    (∀ {α : Type} (as bs cs : List α), as ++ bs ++ cs = as ++ (bs ++ cs)) ∧
    (∀ {α : Type} {a : α} {as bs : List α}, a :: as ++ bs = a :: (as ++ bs)) ∧
    (∀ {α : Type} (as : List α), [] ++ as = as) ∧
    (∀ {α : Type} (as : List α), as ++ [] = as) ∧
    ((true = false) = False) :=
  ⟨@own_app, @own_app0, @bin_and, @bin_or, @bin_shr, @bin_shl, @bin_quo, @bin_rem, @putD_ne, @putD_none, @natD_cast, @natD_nn, @optNatD_none, @optNatD_some, @Option.getD_some, @Option.getD_none, @Option.isSome_some, @Option.isSome_none, @Option.isNone_some, @Option.isNone_none, @Int.toNat_natCast, @Nat.zero_le, @Nat.sub_zero, @false_and, @and_false, @envL_ne, @fillD_nil, @fillD_cons, @repD_one, @repD_zero, @Nat.zero_add, @Nat.add_zero, @Nat.zero_mul, @Nat.mul_one, @Nat.one_mul, @Nat.le_refl, @Option.map_some, @Option.map_none, @Option.bind_some, @Bool.false_eq_true, @Bool.not_true, @Bool.not_false, @and_self, @true_and, @and_true, @List.map_cons, @List.map_nil, @List.length_cons, @List.length_nil, @List.length_append, @List.getElem?_cons_zero, @List.getElem?_cons_succ, @List.set_cons_zero, @List.set_cons_succ, @List.drop_zero, @List.drop_succ_cons, @List.take_succ_cons, @List.take_zero, @List.all_cons, @List.all_nil, @Bool.and_self, @Bool.and_true, @Bool.true_and, @List.append_assoc, @List.cons_append, @List.nil_append, @List.append_nil, @Bool.true_eq_false⟩
end Go.DM
