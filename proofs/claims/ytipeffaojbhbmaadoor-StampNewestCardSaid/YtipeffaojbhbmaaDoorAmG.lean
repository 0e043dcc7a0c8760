/- An abstract machine over Go's operations: single operations are sound, third part. -/
import Derived.Test.YtipeffaojbhbmaaDoorAmF
set_option linter.unusedSimpArgs false
set_option linter.unusedVariables false
namespace Go.AM
open Go

theorem natA_inv {n φ v v' k} (h : natA v = some k) (hv : VRel n φ v v') : ∃ kd i, v' = .int kd i ∧ 0 ≤ i ∧ i.toNat = k := by
  cases v with
  | int kd i =>
    simp only [natA] at h
    split at h
    · rename_i hi; cases h; cases hv; exact ⟨kd, i, rfl, hi, rfl⟩
    · cases h
  | _ => simp [natA] at h

theorem run_bound {P : Program} {n φ v v' k y code} (h : natA v = some k) (hv : VRel n φ v v') (hk : k ≤ y) (w : World) : (Instr.sliceBound v' y code).run P w = .ok k w := by
  obtain ⟨kd, i, rfl, hi, rfl⟩ := natA_inv h hv
  have : 0 ≤ i ∧ i ≤ (y : Int) := by omega
  simp [Instr.sliceBound, asIntOf, this]

/-- Optional bounds. -/
def ORel (n : Nat) (φ : Nat → Place) (x y : Option Value) : Prop := match x, y with | none, none => True | some v, some v' => VRel n φ v v' | _, _ => False

theorem run_bounds {P : Program} {n φ} {isSlice : Bool} {len cap : Nat} {lo hi mx lo' hi' mx' : Option Value} {l h m : Option Nat} (hl : optNat lo = some l) (hh : optNat hi = some h) (hm : optNat mx = some m)
    (rl : ORel n φ lo lo') (rh : ORel n φ hi hi') (rm : ORel n φ mx mx') (hc : (m.isSome && h.isNone) = false)
    (b1 : l.getD 0 ≤ h.getD len) (b2 : h.getD len ≤ m.getD cap) (b3 : m.getD cap ≤ cap) (w : World) :
    (Instr.sliceBounds isSlice len cap lo' hi' mx').run P w = .ok (l.getD 0, h.getD len, m.getD cap) w := by
  have inv : ∀ {x x' : Option Value} {k : Option Nat}, optNat x = some k → ORel n φ x x' → (k = none ∧ x' = none) ∨ ∃ v v' j, x' = some v' ∧ k = some j ∧ natA v = some j ∧ VRel n φ v v' := by
    intro x x' k hx hr
    cases x with
    | none => cases x' with | none => simp [optNat] at hx; exact .inl ⟨hx.symm, rfl⟩ | some _ => exact hr.elim
    | some v =>
      cases x' with
      | none => exact hr.elim
      | some v' =>
        simp only [optNat, Option.map_eq_some_iff] at hx
        obtain ⟨j, hj, rfl⟩ := hx
        exact .inr ⟨v, v', j, rfl, rfl, hj, hr⟩
  rcases inv hl rl with ⟨rfl, rfl⟩ | ⟨vl, vl', jl, rfl, rfl, nl, rl⟩ <;> rcases inv hh rh with ⟨rfl, rfl⟩ | ⟨vh, vh', jh, rfl, rfl, nh, rh⟩ <;> rcases inv hm rm with ⟨rfl, rfl⟩ | ⟨vm, vm', jm, rfl, rfl, nm, rm⟩ <;>
    simp at hc b1 b2 b3 ⊢ <;>
    (simp only [Instr.sliceBounds, Sem.run_bind, Sem.run_pure, Result.andThen_ok]
     try rw [run_bound nm rm (by omega)]
     try simp only [Result.andThen_ok]
     try rw [run_bound nh rh (by omega)]
     try simp only [Result.andThen_ok]
     try rw [run_bound nl rl (by omega)]
     try simp)

theorem sound_slice {P : Program} {base φ H w} (hs : Sim φ H w) {t : TypeId} {x x' v : Value} {lo hi mx lo' hi' mx' : Option Value} (h : sliceA P t x lo hi mx H = some v) (hx : VRel H.length φ x x')
    (rl : ORel H.length φ lo lo') (rh : ORel H.length φ hi hi') (rm : ORel H.length φ mx mx') : Sound P base φ H w (Instr.sliceAt t x' lo' hi' mx') v H := by
  simp only [sliceA, Option.bind_eq_bind] at h
  cases hl : optNat lo with
  | none => simp [hl] at h
  | some l =>
  cases hh : optNat hi with
  | none => simp [hl, hh] at h
  | some hh' =>
  cases hm : optNat mx with
  | none => simp [hl, hh, hm] at h
  | some m =>
  cases hu : P.underlying t with
  | none => simp [hl, hh, hm, hu] at h
  | some d =>
  simp only [hl, hh, hm, hu, Option.bind_some] at h
  split at h
  · rename_i s
    split at h
    · cases h
    · rename_i hmx
      split at h
      · rename_i hb
        cases h
        cases hx
        have hmn : m = none := by simpa using hmx
        subst hmn
        have hmx' : mx' = none := by
          cases mx with
          | none => cases mx' with | none => rfl | some _ => exact rm.elim
          | some v => simp [optNat] at hm
        subst hmx'
        have hr := run_bounds (P := P) (isSlice := false) (len := s.size) (cap := s.size) hl hh (show optNat none = some none from rfl) rl rh (show ORel H.length φ none none from trivial) rfl hb.1 hb.2 (Nat.le_refl _) w
        refine .pure hs ?_ (.string _)
        simp [Instr.sliceAt, Instr.slice, run_underA hu, hr]
      · cases h
  · rename_i e a len cap
    cases hsz : sizeA P e with
    | none => simp [hsz] at h
    | some sz =>
    simp only [hsz, Option.bind_some] at h
    split at h
    · cases h
    · rename_i hc
      have hc : (m.isSome && hh'.isNone) = false := Bool.eq_false_iff.2 hc
      split at h
      · rename_i hb
        obtain ⟨b1, b2, b3⟩ := hb
        cases hx with
        | slNil _ _ =>
          simp only [Option.some.injEq] at h
          subst h
          have hr := run_bounds (P := P) (isSlice := true) (len := len) (cap := cap) hl hh hm rl rh rm hc b1 b2 b3 w
          refine .pure hs ?_ (.slNil _ _)
          simp [Instr.sliceAt, Instr.slice, run_underA hu, hr, run_sizeOf hsz]
        | sl hd o _ _ c hn hlm hmc hf =>
          have hmc' : m.getD cap ≤ m.getD c := by cases m <;> simp; omega
          have hr := run_bounds (P := P) (isSlice := true) (len := len) (cap := c) hl hh hm rl rh rm hc b1 (by omega) (by cases m <;> simp at b3 ⊢; omega) w
          have hle : m.getD c ≤ c := by cases m <;> simp at b3 ⊢; omega
          have hrun : (Instr.sliceAt t (.slice (some ⟨(φ hd).B, (φ hd).base + o, none⟩) len c) lo' hi' mx').run P w =
              .ok (.slice (some (if m.getD c = l.getD 0 then ⟨(φ hd).B, (φ hd).base + o, none⟩ else (⟨(φ hd).B, (φ hd).base + o, none⟩ : Addr).add (l.getD 0 * sz))) (hh'.getD len - l.getD 0) (m.getD c - l.getD 0)) w := by
            simp only [Instr.sliceAt, Instr.slice, Sem.run_bind, run_underA hu, Result.andThen_ok, hr, run_sizeOf hsz]
            split <;> rfl
          simp only at h
          by_cases hfree : m.isSome = true ∧ m.getD cap = l.getD 0
          · rw [if_pos hfree] at h
            cases h
            have e0 : m.getD c = l.getD 0 := by
              cases m with
              | none => simp at hfree
              | some m => simpa using hfree
            have e1 : hh'.getD len - l.getD 0 = 0 := by omega
            have e3 : m.getD c - l.getD 0 = 0 := by omega
            refine .pure hs hrun ?_
            simp only [e1, e3]
            exact .slFree _
          rw [if_neg hfree] at h
          by_cases hl0 : l.getD 0 = 0
          · simp only [hl0, if_true, Option.some.injEq] at h
            subst h
            refine .pure hs hrun ?_
            simp only [hl0, Nat.zero_mul, Nat.sub_zero, add_none, Nat.add_zero, ite_self]
            refine .sl hd o _ _ _ hn b2 hmc' ?_
            have : m.getD c * (φ hd).sz ≤ c * (φ hd).sz := Nat.mul_le_mul_right _ hle
            omega
          · simp only [hl0, if_false, Option.isSome_none, Bool.false_eq_true] at h
            cases hg : hget H hd with
            | none => simp [hg] at h
            | some b =>
              simp only [hg] at h
              split at h
              · rename_i hbz
                simp only [Option.some.injEq] at h
                subst h
                obtain ⟨_, _, _, _, _, _, hsz', _⟩ := hs.cov hd b hg
                refine .pure hs hrun ?_
                by_cases hcl : m.getD c = l.getD 0
                · have e1 : hh'.getD len - l.getD 0 = 0 := by omega
                  have e2 : m.getD cap - l.getD 0 = 0 := by omega
                  have e3 : m.getD c - l.getD 0 = 0 := by omega
                  simp only [e1, e2, e3]
                  exact .slEmp _ _ _ hn
                · simp only [hcl, if_false, add_none, Nat.add_assoc]
                  refine .sl hd (o + l.getD 0 * sz) _ _ _ hn (by omega) (by omega) ?_
                  have hq : (φ hd).sz = sz := by rw [hsz', hbz]
                  rw [hq] at hf ⊢
                  have h1 : l.getD 0 * sz + (m.getD c - l.getD 0) * sz = m.getD c * sz := by rw [← Nat.add_mul]; congr 1; omega
                  have h2 : m.getD c * sz ≤ c * sz := Nat.mul_le_mul_right _ hle
                  omega
              · cases h
        | slEmp _ _ b hhn =>
          have hl0 : l.getD 0 = 0 := by omega
          have hh0 : hh'.getD 0 = 0 := by omega
          have hm0 : m.getD 0 = 0 := by omega
          have hr := run_bounds (P := P) (isSlice := true) (len := 0) (cap := 0) hl hh hm rl rh rm hc b1 b2 b3 w
          have hrun : (Instr.sliceAt t (.slice (some b) 0 0) lo' hi' mx').run P w = .ok (.slice (some b) 0 0) w := by
            simp only [Instr.sliceAt, Instr.slice, Sem.run_bind, run_underA hu, Result.andThen_ok, hr, run_sizeOf hsz, hl0, hh0, hm0]
            simp
          simp only at h
          by_cases hfree : m.isSome = true ∧ m.getD 0 = l.getD 0
          · rw [if_pos hfree] at h
            cases h
            exact .pure hs hrun (.slFree _)
          rw [if_neg hfree] at h
          simp only [hl0, if_true, Option.some.injEq] at h
          subst h
          exact .pure hs hrun (by rw [hh0, hm0]; exact .slEmp _ _ _ hhn)
        | slFree b =>
          have hl0 : l.getD 0 = 0 := by omega
          have hh0 : hh'.getD 0 = 0 := by omega
          have hm0 : m.getD 0 = 0 := by omega
          have hr := run_bounds (P := P) (isSlice := true) (len := 0) (cap := 0) hl hh hm rl rh rm hc b1 b2 b3 w
          have hrun : (Instr.sliceAt t (.slice (some b) 0 0) lo' hi' mx').run P w = .ok (.slice (some b) 0 0) w := by
            simp only [Instr.sliceAt, Instr.slice, Sem.run_bind, run_underA hu, Result.andThen_ok, hr, run_sizeOf hsz, hl0, hh0, hm0]
            simp
          simp only at h
          by_cases hfree : m.isSome = true ∧ m.getD 0 = l.getD 0
          · rw [if_pos hfree] at h
            cases h
            exact .pure hs hrun (.slFree _)
          rw [if_neg hfree] at h
          simp only [hl0, if_true, Option.some.injEq] at h
          subst h
          exact .pure hs hrun (by rw [hh0, hm0]; exact .slFree _)
      · cases h
  · cases h

theorem sound_fieldAt {P : Program} {base φ H w} (hs : Sim φ H w) {s : TypeId} {x x' v : Value} {f : Nat} (h : fieldAtA P s x f = some v) (hx : VRel H.length φ x x') : Sound P base φ H w (Instr.fieldAt s x' f) v H := by
  simp only [fieldAtA, Option.bind_eq_bind] at h
  cases hu : P.underlying s with
  | none => simp [hu] at h
  | some d =>
    cases d <;> try (simp [hu] at h; done)
    rename_i fields
    simp only [hu, Option.bind_some] at h
    cases hf : fields[f]? with
    | none => simp [hf] at h
    | some fd =>
      simp only [hf, Option.bind_some] at h
      cases x <;> try (simp at h; done)
      rename_i p
      cases p with
      | none => simp at h
      | some a =>
        simp only at h
        cases hsz : sizeA P fd.type with
        | none => simp [hsz] at h
        | some sz =>
          simp only [hsz, Option.bind_some] at h
          split at h
          · cases h
          · rename_i hc
            simp only [not_or] at hc
            simp only [Option.some.injEq] at h
            subst h
            obtain ⟨hn, ha, rfl⟩ := ptr_inv hx (by simpa using hc.1)
            refine .pure hs (v' := .pointer (some ⟨(φ a.block).B, (φ a.block).base + (a.off + fd.offset), none⟩)) ?_ (.ptr _ _ hn)
            simp [Instr.fieldAt, run_underA hu, hf, Instr.sureAddr, fieldPlace, run_sizeOf hsz, hc.2, add_none, Nat.add_assoc]

theorem sound_indexAt {P : Program} {base φ H w} (hs : Sim φ H w) {t : TypeId} {x x' i i' v : Value} (h : indexAtA P t x i = some v) (hx : VRel H.length φ x x') (hi : VRel H.length φ i i') : Sound P base φ H w (Instr.indexAt t x' i') v H := by
  simp only [indexAtA, Option.bind_eq_bind] at h
  cases i <;> try (simp at h; done)
  rename_i k i
  cases hi
  simp only at h
  cases hu : P.underlying t with
  | none => simp [hu] at h
  | some d =>
    simp only [hu, Option.bind_some] at h
    split at h
    · rename_i e a len cap
      split at h
      · rename_i hc
        obtain ⟨h0, h1, hsp⟩ := hc
        cases hsz : sizeA P e with
        | none => simp [hsz] at h
        | some sz =>
          simp only [hsz, Option.bind_some, Option.some.injEq] at h
          subst h
          cases hx with
          | sl hd o _ _ c hn hl hm hf =>
            refine .pure hs (v' := .pointer (some ⟨(φ hd).B, (φ hd).base + (o + i.toNat * sz), none⟩)) ?_ (.ptr _ _ hn)
            simp [Instr.indexAt, asIntOf, run_underA hu, h0, h1, run_sizeOf hsz, add_none, Nat.add_assoc]
          | slEmp => omega
          | slFree => simp [freeA] at hsp
      · cases h
    · cases h

theorem sound_index {P : Program} {base φ H w} (hs : Sim φ H w) {t : TypeId} {s : ByteArray} {k : IntKind} {i : Int} {b : UInt8} (hu : P.underlying t = some .string) (h0 : 0 ≤ i) (hb : s.data[i.toNat]? = some b) :
    Sound P base φ H w (Instr.index t (.string s) (.int k i)) (.int .u8 b.toNat) H := by
  have hb' : s[i.toNat]? = some b := by
    obtain ⟨hlt, e⟩ := Array.getElem?_eq_some_iff.1 hb
    have : i.toNat < s.size := hlt
    rw [getElem?_pos s i.toNat this]
    exact congrArg some e
  refine .pure hs (v' := .int .u8 b.toNat) ?_ (.int _ _)
  simp [Instr.index, asIntOf, run_underA hu, h0, hb']

theorem VRel.tuple_get {n φ x' v} {vs : Array Value} {i : Nat} (h : VRel n φ (.tuple vs) x') (hv : vs[i]? = some v) : ∃ (vs' : Array Value) (v' : Value), x' = .tuple vs' ∧ vs'[i]? = some v' ∧ VRel n φ v v' := by
  cases h with
  | tuple xs ys h1 h2 =>
    obtain ⟨hi, rfl⟩ := Array.getElem?_eq_some_iff.1 hv
    exact ⟨ys, ys[i]'(by omega), rfl, by simp [show i < ys.size by omega], h2 i hi (by omega)⟩

theorem sound_makeSlice {P : Program} {base φ H w} (hs : Sim φ H w) {t : TypeId} {l c l' c' v : Value} {H' : Heap} (h : makeSliceA P t l c H = some (v, H')) (hl : VRel H.length φ l l') (hc : VRel H.length φ c c') :
    Sound P base φ H w (Instr.makeSlice t l' c') v H' := by
  simp only [makeSliceA, Option.bind_eq_bind] at h
  cases hu : P.underlying t with
  | none => simp [hu] at h
  | some d =>
    cases d <;> try (simp [hu] at h; done)
    rename_i e
    simp only [hu, Option.bind_some] at h
    cases hi : P.info? e with
    | none => simp [hi] at h
    | some info =>
      simp only [hi, Option.bind_some] at h
      cases hz : info.zero with
      | none => simp [hz] at h
      | some z =>
        simp only [hz, Option.bind_some] at h
        cases l <;> try (simp at h; done)
        rename_i k1 l
        cases k1 <;> try (simp at h; done)
        cases c <;> try (simp at h; done)
        rename_i k2 c
        cases k2 <;> try (simp at h; done)
        cases hl; cases hc
        simp only at h
        split at h
        · rename_i hcond
          obtain ⟨h0, h1, h2, h3, h4, h5⟩ := hcond
          simp only [Option.some.injEq, Prod.mk.injEq] at h
          obtain ⟨rfl, rfl⟩ := h
          have hwl : IntKind.i64.wrap l = l := by simp [IntKind.wrap, IntKind.bits, IntKind.signed]; omega
          have hwc : IntKind.i64.wrap c = c := by simp [IntKind.wrap, IntKind.bits, IntKind.signed]; omega
          have hle : l.toNat * info.size ≤ c.toNat * info.size := Nat.mul_le_mul_right _ (by omega)
          obtain ⟨φ', hst, hφ⟩ := sound_newT (P := P) (base := base) (sz := info.size) hs (cells := ((Array.range (l.toNat * info.size)).map (z.cells[· % z.cells.size]!)).toList) (cs := (Array.range (c.toNat * info.size)).map (z.cells[· % z.cells.size]!)) e (by simpa using hle) (fun i v hv => by
            have hr := range_rel (n := H.length) (φ := φ) h4 (l.toNat * info.size)
            have hi := (List.getElem?_eq_some_iff.1 hv).1
            have hi2 : i < c.toNat * info.size := by simp at hi; omega
            refine ⟨v, ?_, hr.2 i v v hv hv⟩
            rw [← hv]
            simp at hi
            simp [hi, hi2])
          refine ⟨.slice (some ⟨w.heap.size, 0, none⟩) l.toNat c.toNat, w.alloc (.cells ((Array.range (c.toNat * info.size)).map (z.cells[· % z.cells.size]!)) e), φ', ?_, hst, ?_⟩
          · have g1 : ¬ (c < 0) := by omega
            have g2 : ¬ ((281474976710656 : Int) < (info.bytes : Int) * c) := by omega
            have g3 : ¬ (l < 0) := by omega
            have g4 : ¬ (c < l) := by omega
            have hzz : zeroA P e = some z := by simp [zeroA, hi, hz]
            by_cases hn : c.toNat * info.size = 0
            · have e1 : ((Array.range (c.toNat * info.size)).map (z.cells[· % z.cells.size]!)) = #[] := by rw [hn]; simp
              have e3 : (Array.map (fun _ => (default : Value)) (Array.range 0)) = #[] := by simp
              rw [e1]
              simp [Instr.makeSlice, run_underA hu, run_infoA hi, asInt, asIntOf, hwl, hwc, g1, g2, g3, g4, sizeOf, hn, newRow, e3]
            · simp [Instr.makeSlice, run_underA hu, run_infoA hi, asInt, asIntOf, hwl, hwc, g1, g2, g3, g4, sizeOf, hn, newRow, run_zeroA hzz]
          · have hs0 := VRel.sl (n := (newA H ((Array.range (l.toNat * info.size)).map (z.cells[· % z.cells.size]!)).toList info.size).length) (φ := φ') H.length 0 l.toNat l.toNat c.toNat (by simp [newA, newB]) (Nat.le_refl _) (by omega) (by rw [hφ]; simp)
            rw [hφ] at hs0
            simpa [atNew] using hs0
        · cases h

end Go.AM
