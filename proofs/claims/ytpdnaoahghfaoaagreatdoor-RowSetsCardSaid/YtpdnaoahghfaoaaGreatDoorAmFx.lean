/- An abstract machine over Go's operations: single operations are sound, second part. -/
import Derived.Test.YtpdnaoahghfaoaaGreatDoorAmAx
import Derived.Lib.ConvBytes
import Derived.Laws.AppendOwn
set_option linter.unusedSimpArgs false
set_option linter.unusedVariables false
namespace Go.AM
open Go

theorem pureRun_run {α : Type} {P : Program} : ∀ (s : Sem α) {a : α} (_ : pureRun P s = some a) (w : World), s.run P w = .ok a w
  | .pure b, a, h, w => by simp [pureRun] at h; subst h; rfl
  | .program k, a, h, w => by simp only [pureRun] at h; simp only [Sem.run]; exact pureRun_run (k P) h w
  | .mark m k, a, h, w => by simp only [pureRun] at h; simp only [Sem.run]; exact pureRun_run k h w
  | .load _ _ _, _, h, _ | .store _ _ _ _, _, h, _ | .new _ _, _, h, _ | .shape _ _, _, h, _ | .freeze _ _ _, _, h, _ | .frozen _ _, _, h, _ | .getObj _ _, _, h, _ | .setObj _ _ _, _, h, _
  | .choose _ _, _, h, _ | .sys _ _, _, h, _ | .halt _, _, h, _ => by simp [pureRun] at h

theorem run_eqGuard_int {P : Program} {op : BinOp} {t : TypeId} {x y : Operand} {k : IntKind} {a : Int} {b : Value} (w : World) : (eqGuard op t x y (.int k a) b).run P w = .ok () w := by
  cases op <;> simp [eqGuard]
theorem run_eqGuard_str {P : Program} {op : BinOp} {t : TypeId} {x y : Operand} {a : ByteArray} {b : Value} (w : World) : (eqGuard op t x y (.string a) b).run P w = .ok () w := by
  cases op <;> simp [eqGuard]
theorem run_eqGuard_bool {P : Program} {op : BinOp} {t : TypeId} {x y : Operand} {a : Bool} {b : Value} (w : World) : (eqGuard op t x y (.bool a) b).run P w = .ok () w := by
  cases op <;> simp [eqGuard]

theorem run_intBin {P : Program} {op : BinOp} {k : IntKind} {a b : Int} {v : Value} (h : intBin op k a b = some v) {t : TypeId} (w : World) : (binOp op t (.int k a) (.int k b)).run P w = .ok v w ∧ scalarV v = true := by
  cases op <;> simp only [intBin] at h
  case quo | rem =>
    split at h
    · cases h
    · rename_i hb; cases h; simp [binOp, Op.intDiv, hb, scalarV]
  all_goals first
    | (cases h; done)
    | (cases h; simp [binOp, Op.intArith, Op.intCmp, scalarV])

theorem run_equalIn_bool {P : Program} {t : TypeId} {a b : Bool} (d : Nat) (h : P.underlying t = some .bool) (w : World) : (Op.equalIn (d + 1) t (.bool a) (.bool b)).run P w = .ok (a == b) w := by
  simp only [Op.equalIn, Sem.run_bind, run_underA h, Result.andThen_ok]
  rfl
theorem run_equal_bool {P : Program} {t : TypeId} {a b : Bool} (h : P.underlying t = some .bool) (w : World) : (Op.equal t (.bool a) (.bool b)).run P w = .ok (a == b) w :=
  run_equalIn_bool 9999 h w

theorem run_binA {P : Program} {op : BinOp} {t : TypeId} {x y v : Value} (h : binA P op t x y = some v) {ox oy : Operand} (w : World) :
    (do eqGuard op t ox oy x y; binOp op t x y : Sem Value).run P w = .ok v w ∧ scalarV x = true ∧ scalarV y = true ∧ scalarV v = true := by
  unfold binA at h
  split at h
  · rename_i k a k' b
    have hg : (eqGuard op t ox oy (.int k a) (.int k' b)).run P w = .ok () w := run_eqGuard_int w
    split at h
    · split at h
      · cases h
      · rename_i hb; cases h
        simp [Sem.run_bind, hg, binOp, Op.shift, hb, scalarV]
    · split at h
      · cases h
      · rename_i hb; cases h
        simp [Sem.run_bind, hg, binOp, Op.shift, hb, scalarV]
    · split at h
      · rename_i hk; subst hk
        have hr := pureRun_run _ h w
        have : scalarV v = true := by simp [Op.intBits, pureRun] at h; cases h; rfl
        refine ⟨?_, rfl, rfl, this⟩
        simp only [Sem.run_bind, hg, Result.andThen_ok]
        simpa [binOp] using hr
      · cases h
    · split at h
      · rename_i hk; subst hk
        have hr := pureRun_run _ h w
        have : scalarV v = true := by simp [Op.intBits, pureRun] at h; cases h; rfl
        refine ⟨?_, rfl, rfl, this⟩
        simp only [Sem.run_bind, hg, Result.andThen_ok]
        simpa [binOp] using hr
      · cases h
    · split at h
      · rename_i hk; subst hk
        have hr := pureRun_run _ h w
        have : scalarV v = true := by simp [Op.intBits, pureRun] at h; cases h; rfl
        refine ⟨?_, rfl, rfl, this⟩
        simp only [Sem.run_bind, hg, Result.andThen_ok]
        simpa [binOp] using hr
      · cases h
    · split at h
      · rename_i hk; subst hk
        have hr := pureRun_run _ h w
        have : scalarV v = true := by simp [Op.intBits, pureRun] at h; cases h; rfl
        refine ⟨?_, rfl, rfl, this⟩
        simp only [Sem.run_bind, hg, Result.andThen_ok]
        simpa [binOp] using hr
      · cases h
    · split at h
      · rename_i hk; subst hk
        have hr := run_intBin (P := P) (t := t) h w
        refine ⟨?_, rfl, rfl, hr.2⟩
        simp only [Sem.run_bind, hg, Result.andThen_ok]
        exact hr.1
      · cases h
  · rename_i a b
    have hg : (eqGuard op t ox oy (.string a) (.string b)).run P w = .ok () w := run_eqGuard_str w
    simp only [Sem.run_bind, hg, Result.andThen_ok]
    cases op <;> simp only [strBin] at h
    case add =>
      split at h
      · cases h
      · rename_i hb; cases h; simp only [binOp, Op.stringOp, hb, if_false]; simp [scalarV]
    all_goals first
      | (cases h; done)
      | (cases h; simp [binOp, Op.stringOp, scalarV])
  · rename_i a b
    have hg : (eqGuard op t ox oy (.bool a) (.bool b)).run P w = .ok () w := run_eqGuard_bool w
    simp only [Sem.run_bind, hg, Result.andThen_ok]
    cases op <;> simp only at h
    case eql | neq =>
      split at h
      · rename_i hu
        cases h
        cases hu' : P.underlying t with
        | none => simp [hu'] at hu
        | some d =>
          cases d <;> simp [hu'] at hu
          have he := run_equal_bool (a := a) (b := b) hu' w
          refine ⟨?_, rfl, rfl, rfl⟩
          first
            | (rw [show binOp .eql t (.bool a) (.bool b) = (do pure (.bool (← Op.equal t (.bool a) (.bool b)))) from rfl]; simp [he])
            | (rw [show binOp .neq t (.bool a) (.bool b) = (do pure (.bool (!(← Op.equal t (.bool a) (.bool b))))) from rfl]; simp [he])
      · cases h
    all_goals cases h
  · cases h

theorem run_equalIn_nil {P : Program} {t : TypeId} {n φ x y x' y'} {b : Bool} (d : Nat) (h : nilEq P t x y = some b) (hx : VRel n φ x x') (hy : VRel n φ y y') (w : World) :
    (Op.equalIn (d + 1) t x' y').run P w = .ok b w := by
  unfold nilEq at h
  split at h <;> first | (cases h; done) | skip
  all_goals
    rename_i hu
    cases h
    simp only [Op.equalIn, Sem.run_bind, run_underA hu, Result.andThen_ok]
    cases hx <;> cases hy <;> rfl

theorem guard_nil {P : Program} {t : TypeId} {n φ x y x' y'} {b : Bool} (h : nilEq P t x y = some b) (hx : VRel n φ x x') (hy : VRel n φ y y') (op : BinOp) (ox oy : Operand) (w : World) :
    (eqGuard op t ox oy x' y').run P w = .ok () w := by
  unfold nilEq at h
  split at h <;> first | (cases h; done) | skip
  all_goals cases hx <;> cases hy <;> cases op <;> simp [eqGuard]

theorem run_nilEq {P : Program} {n φ} {t : TypeId} {x y x' y' : Value} {b : Bool} (h : nilEq P t x y = some b) (hx : VRel n φ x x') (hy : VRel n φ y y') {ox oy : Operand} (w : World) :
    (do eqGuard .eql t ox oy x' y'; binOp .eql t x' y' : Sem Value).run P w = .ok (.bool b) w ∧ (do eqGuard .neq t ox oy x' y'; binOp .neq t x' y' : Sem Value).run P w = .ok (.bool !b) w := by
  have he : (Op.equal t x' y').run P w = .ok b w := run_equalIn_nil 9999 h hx hy w
  simp only [Sem.run_bind, guard_nil h hx hy, Result.andThen_ok]
  have h1 : binOp .eql t x' y' = (do pure (.bool (← Op.equal t x' y'))) ∧ binOp .neq t x' y' = (do pure (.bool (!(← Op.equal t x' y')))) := by
    unfold nilEq at h
    split at h <;> first | (cases h; done) | skip
    all_goals cases hx <;> cases hy <;> exact ⟨rfl, rfl⟩
  rw [h1.1, h1.2]
  simp [he]

theorem run_unA {P : Program} {op : UnOp} {x : Value} {v : Value} (h : (match op, x with
    | .not, .bool b => some (.bool !b)
    | .neg, .int k n => some (.int k (k.wrap (0 - n)))
    | .xor, .int k n => pureRun P (Op.intBits .xor k (if k.signed then -1 else k.max) n)
    | _, _ => (none : Option Value)) = some v) (w : World) : (Op.unary op x).run P w = .ok v w ∧ scalarV x = true := by
  split at h
  · cases h; simp [Op.unary, scalarV]
  · cases h; simp [Op.unary, Op.intArith, scalarV]
  · exact ⟨pureRun_run _ h w, rfl⟩
  · cases h

theorem sound_conv {P : Program} {base φ H w} (hs : Sim φ H w) {s d : TypeId} {x x' v : Value} {H' : Heap} (h : convA P s d x H = some (v, H')) (hx : VRel H.length φ x x') :
    Sound P base φ H w (convert s d x') v H' := by
  simp only [convA, Option.bind_eq_bind] at h
  cases hu : P.underlying s with
  | none => simp [hu] at h
  | some us =>
    cases hd : P.underlying d with
    | none => simp [hu, hd] at h
    | some ud =>
      simp only [hu, hd, Option.bind_some] at h
      split at h
      · cases h; cases hx
        exact .pure hs (by simp [convert, run_underA hu, run_underA hd, Conv.intToInt]) (.int _ _)
      · cases h; cases hx
        exact .pure hs (by simp [convert, run_underA hu, run_underA hd]) (.string _)
      · rename_i e a
        cases he : P.underlying e with
        | none => simp [he] at h
        | some ue =>
          simp only [he, Option.bind_some] at h
          split at h
          · cases h; cases hx
            have hheap : (Lib.bytesWorld w e a).heap = w.heap.push (.cells (Lib.bytesCells w e a) e ((Lib.bytesCells w e a).size, (Lib.bytesCells w e a).size + 1)) := by
              apply Array.ext_getElem?
              intro i
              rcases Nat.lt_trichotomy i w.heap.size with hi | hi | hi
              · rw [Lib.bytesWorld_at_old w e a i hi, Array.getElem?_push_lt hi]; simp [hi]
              · subst hi; rw [Lib.bytesWorld_at_new]; simp
              · rw [Array.getElem?_eq_none (by rw [Lib.bytesWorld_size]; omega), Array.getElem?_eq_none (by simp; omega)]
            have hge := grownCap_ge w a.size 0 e
            have hsz : (Lib.bytesCells w e a).size = grownCap w a.size 0 e := by simp [Lib.bytesCells]; omega
            have st := step_new (base := base) (sz := 1) (cells := a.data.toList.map fun b => Value.int .u8 b.toNat) (fin := (Lib.bytesCells w e a).size) hs hheap rfl rfl rfl (by simp [hsz]; omega) (Nat.le_refl _) (fun i h1 h2 => by have h1 := h1.resolve_right (fun h => h rfl); simp at h2; omega) (fun h => absurd rfl h) (fun i v hv => by
              refine ⟨v, ?_, ?_⟩
              · have hi := (List.getElem?_eq_some_iff.1 hv).1
                simp at hi
                simp only [Lib.bytesCells]
                rw [Array.getElem?_append_left (by simpa using hi)]
                simpa using hv
              · simp at hv
                obtain ⟨b, _, rfl⟩ := hv
                exact .int _ _)
            refine ⟨_, _, _, Lib.run_convert_string_bytes w s d e a hu hd he, st, ?_⟩
            have := VRel.sl (n := (newA H (a.data.toList.map fun b => Value.int .u8 b.toNat) 1).length) (φ := extP φ H.length ⟨w.heap.size, 0, (Lib.bytesCells w e a).size, 1⟩) H.length 0 a.size a.size (grownCap w a.size 0 e) (by simp [newA, newB]) (Nat.le_refl _) hge (by rw [extP_eq]; simp [hsz])
            rw [extP_eq] at this
            simpa [atNew] using this
          · cases h
      · rename_i e b n c
        cases he : P.underlying e with
        | none => simp [he] at h
        | some ue =>
          simp only [he, Option.bind_some] at h
          split at h
          · split at h
            · cases h
              cases hx
              exact .pure hs (by simp [convert, run_underA hu, run_underA hd, run_underA he, Conv.bytesToString]) (.string _)
            · rename_i a
              split at h
              · rename_i hn0
                subst hn0
                cases h
                have key : ∀ B c', (convert s d (.slice (some B) 0 c')).run P w = .ok (.string .empty) w := by
                  intro B c'
                  simp only [convert, Sem.run_bind, run_underA hu, run_underA hd, run_underA he, Result.andThen_ok]
                  simp [Conv.bytesToString, loadCells, loadCellsFrom]
                cases hx <;> exact .pure hs (key _ _) (.string _)
              rename_i hn0
              cases hr : readA H a n with
              | none => simp [hr] at h
              | some cs =>
                simp only [hr, Option.bind_some] at h
                cases hb : u8s cs with
                | none => simp [hb] at h
                | some xs =>
                  simp only [hb, Option.bind_some, Option.some.injEq, Prod.mk.injEq] at h
                  obtain ⟨rfl, rfl⟩ := h
                  obtain ⟨cs', hrel, hlen, hcell, hrun⟩ := run_read (P := P) hs hr
                  have hxs : ∀ (cs : List Value) {xs : List Int}, u8s cs = some xs → cs = xs.map (Value.int .u8) := by
                    intro cs
                    induction cs with
                    | nil => intro xs h; simp [u8s] at h; subst h; rfl
                    | cons c cs ih =>
                      intro xs h
                      unfold u8s at h
                      split at h
                      · rename_i he; cases he
                      · rename_i k r he
                        cases he
                        cases hr : u8s cs with
                        | none => simp [hr] at h
                        | some ys =>
                          simp only [hr, Option.map_some, Option.some.injEq] at h
                          subst h
                          rw [ih hr]
                          rfl
                      · cases h
                  have hcs := hxs cs hb
                  have hcs' : cs' = xs.map (Value.int .u8) := by
                    apply List.ext_getElem?
                    intro i
                    by_cases hi : i < cs.length
                    · have hi' : i < cs'.length := by rw [← hrel.1]; exact hi
                      have h1 := hrel.2 i cs[i] cs'[i] (List.getElem?_eq_getElem hi) (List.getElem?_eq_getElem hi')
                      have hcl : scalarV cs[i] = true := by simp [hcs, scalarV]
                      rw [List.getElem?_eq_getElem hi', h1.scalar_eq hcl, ← List.getElem?_eq_getElem hi, hcs]
                    · rw [List.getElem?_eq_none (by rw [← hrel.1]; omega), List.getElem?_eq_none (by rw [← hcs]; omega)]
                  have hxl : xs.length = n := by rw [← hlen, hcs]; simp
                  have key : ∀ B o c', (∀ (j : Nat) (v : Value), cs'[j]? = some v → w.cell? ⟨B, o + j, none⟩ = some v) → (convert s d (.slice (some ⟨B, o, none⟩) n c')).run P w = .ok (.string (strOfNums xs)) w := by
                    intro B o c' hc
                    refine run_convert_bytes_arg w s e hu he B o n c' xs hxl (fun i hi => ?_) d hd
                    refine hc i _ ?_
                    rw [hcs']
                    simp [hxl, hi, List.getD_eq_getElem?_getD]
                  cases hx with
                  | sl h o l m c' hn hl hm hf =>
                    refine .pure hs (key _ _ c' fun j v hv => ?_) (.string _)
                    exact hcell j v hv
                  | slEmp _ _ b _ => exact absurd rfl hn0
                  | slFree b => exact absurd rfl hn0
          · cases h
      · cases h

end Go.AM

/- An abstract machine over Go's operations: single operations are sound, third part. -/
namespace Go.AM
open Go

theorem natA_inv {n φ v v' k} (h : natA v = some k) (hv : VRel n φ v v') : ∃ kd i, v' = .int kd i ∧ 0 ≤ i ∧ i.toNat = k := by
  cases v with
  | int kd i =>
    simp only [natA] at h
    split at h
    · rename_i hi; cases h; cases hv; exact ⟨kd, i, rfl, hi, rfl⟩
    · cases h
  | _ => simp [natA] at h

theorem run_bound {P : Program} {n φ v v' k y code} (h : natA v = some k) (hv : VRel n φ v v') (hk : k ≤ y) (w : World) : (Instr.sliceBound v' y code).run P w = .ok k w := by
  obtain ⟨kd, i, rfl, hi, rfl⟩ := natA_inv h hv
  have : 0 ≤ i ∧ i ≤ (y : Int) := by omega
  simp [Instr.sliceBound, asIntOf, this]

/-- Optional bounds. -/
def ORel (n : Nat) (φ : Nat → Place) (x y : Option Value) : Prop := match x, y with | none, none => True | some v, some v' => VRel n φ v v' | _, _ => False

theorem run_bounds {P : Program} {n φ} {isSlice : Bool} {len cap : Nat} {lo hi mx lo' hi' mx' : Option Value} {l h m : Option Nat} (hl : optNat lo = some l) (hh : optNat hi = some h) (hm : optNat mx = some m)
    (rl : ORel n φ lo lo') (rh : ORel n φ hi hi') (rm : ORel n φ mx mx') (hc : (m.isSome && h.isNone) = false)
    (b1 : l.getD 0 ≤ h.getD len) (b2 : h.getD len ≤ m.getD cap) (b3 : m.getD cap ≤ cap) (w : World) :
    (Instr.sliceBounds isSlice len cap lo' hi' mx').run P w = .ok (l.getD 0, h.getD len, m.getD cap) w := by
  have inv : ∀ {x x' : Option Value} {k : Option Nat}, optNat x = some k → ORel n φ x x' → (k = none ∧ x' = none) ∨ ∃ v v' j, x' = some v' ∧ k = some j ∧ natA v = some j ∧ VRel n φ v v' := by
    intro x x' k hx hr
    cases x with
    | none => cases x' with | none => simp [optNat] at hx; exact .inl ⟨hx.symm, rfl⟩ | some _ => exact hr.elim
    | some v =>
      cases x' with
      | none => exact hr.elim
      | some v' =>
        simp only [optNat, Option.map_eq_some_iff] at hx
        obtain ⟨j, hj, rfl⟩ := hx
        exact .inr ⟨v, v', j, rfl, rfl, hj, hr⟩
  rcases inv hl rl with ⟨rfl, rfl⟩ | ⟨vl, vl', jl, rfl, rfl, nl, rl⟩ <;> rcases inv hh rh with ⟨rfl, rfl⟩ | ⟨vh, vh', jh, rfl, rfl, nh, rh⟩ <;> rcases inv hm rm with ⟨rfl, rfl⟩ | ⟨vm, vm', jm, rfl, rfl, nm, rm⟩ <;>
    simp at hc b1 b2 b3 ⊢ <;>
    (simp only [Instr.sliceBounds, Sem.run_bind, Sem.run_pure, Result.andThen_ok]
     try rw [run_bound nm rm (by omega)]
     try simp only [Result.andThen_ok]
     try rw [run_bound nh rh (by omega)]
     try simp only [Result.andThen_ok]
     try rw [run_bound nl rl (by omega)]
     try simp)

theorem sound_slice {P : Program} {base φ H w} (hs : Sim φ H w) {t : TypeId} {x x' v : Value} {lo hi mx lo' hi' mx' : Option Value} (h : sliceA P t x lo hi mx H = some v) (hx : VRel H.length φ x x')
    (rl : ORel H.length φ lo lo') (rh : ORel H.length φ hi hi') (rm : ORel H.length φ mx mx') : Sound P base φ H w (Instr.sliceAt t x' lo' hi' mx') v H := by
  simp only [sliceA, Option.bind_eq_bind] at h
  cases hl : optNat lo with
  | none => simp [hl] at h
  | some l =>
  cases hh : optNat hi with
  | none => simp [hl, hh] at h
  | some hh' =>
  cases hm : optNat mx with
  | none => simp [hl, hh, hm] at h
  | some m =>
  cases hu : P.underlying t with
  | none => simp [hl, hh, hm, hu] at h
  | some d =>
  simp only [hl, hh, hm, hu, Option.bind_some] at h
  split at h
  · rename_i s
    split at h
    · cases h
    · rename_i hmx
      split at h
      · rename_i hb
        cases h
        cases hx
        have hmn : m = none := by simpa using hmx
        subst hmn
        have hmx' : mx' = none := by
          cases mx with
          | none => cases mx' with | none => rfl | some _ => exact rm.elim
          | some v => simp [optNat] at hm
        subst hmx'
        have hr := run_bounds (P := P) (isSlice := false) (len := s.size) (cap := s.size) hl hh (show optNat none = some none from rfl) rl rh (show ORel H.length φ none none from trivial) rfl hb.1 hb.2 (Nat.le_refl _) w
        refine .pure hs ?_ (.string _)
        simp [Instr.sliceAt, Instr.slice, run_underA hu, hr]
      · cases h
  · rename_i e a len cap
    cases hsz : sizeA P e with
    | none => simp [hsz] at h
    | some sz =>
    simp only [hsz, Option.bind_some] at h
    split at h
    · cases h
    · rename_i hc
      have hc : (m.isSome && hh'.isNone) = false := Bool.eq_false_iff.2 hc
      split at h
      · rename_i hb
        obtain ⟨b1, b2, b3⟩ := hb
        cases hx with
        | slNil _ _ =>
          simp only [Option.some.injEq] at h
          subst h
          have hr := run_bounds (P := P) (isSlice := true) (len := len) (cap := cap) hl hh hm rl rh rm hc b1 b2 b3 w
          refine .pure hs ?_ (.slNil _ _)
          simp [Instr.sliceAt, Instr.slice, run_underA hu, hr, run_sizeOf hsz]
        | sl hd o _ _ c hn hlm hmc hf =>
          have hmc' : m.getD cap ≤ m.getD c := by cases m <;> simp; omega
          have hr := run_bounds (P := P) (isSlice := true) (len := len) (cap := c) hl hh hm rl rh rm hc b1 (by omega) (by cases m <;> simp at b3 ⊢; omega) w
          have hle : m.getD c ≤ c := by cases m <;> simp at b3 ⊢; omega
          have hrun : (Instr.sliceAt t (.slice (some ⟨(φ hd).B, (φ hd).base + o, none⟩) len c) lo' hi' mx').run P w =
              .ok (.slice (some (if m.getD c = l.getD 0 then ⟨(φ hd).B, (φ hd).base + o, none⟩ else (⟨(φ hd).B, (φ hd).base + o, none⟩ : Addr).add (l.getD 0 * sz))) (hh'.getD len - l.getD 0) (m.getD c - l.getD 0)) w := by
            simp only [Instr.sliceAt, Instr.slice, Sem.run_bind, run_underA hu, Result.andThen_ok, hr, run_sizeOf hsz]
            split <;> rfl
          simp only at h
          by_cases hfree : m.isSome = true ∧ m.getD cap = l.getD 0
          · rw [if_pos hfree] at h
            cases h
            have e0 : m.getD c = l.getD 0 := by
              cases m with
              | none => simp at hfree
              | some m => simpa using hfree
            have e1 : hh'.getD len - l.getD 0 = 0 := by omega
            have e3 : m.getD c - l.getD 0 = 0 := by omega
            refine .pure hs hrun ?_
            simp only [e1, e3]
            exact .slFree _
          rw [if_neg hfree] at h
          by_cases hl0 : l.getD 0 = 0
          · simp only [hl0, if_true, Option.some.injEq] at h
            subst h
            refine .pure hs hrun ?_
            simp only [hl0, Nat.zero_mul, Nat.sub_zero, add_none, Nat.add_zero, ite_self]
            refine .sl hd o _ _ _ hn b2 hmc' ?_
            have : m.getD c * (φ hd).sz ≤ c * (φ hd).sz := Nat.mul_le_mul_right _ hle
            omega
          · simp only [hl0, if_false, Option.isSome_none, Bool.false_eq_true] at h
            cases hg : hget H hd with
            | none => simp [hg] at h
            | some b =>
              simp only [hg] at h
              split at h
              · rename_i hbz
                simp only [Option.some.injEq] at h
                subst h
                obtain ⟨_, _, _, _, _, _, hsz', _⟩ := hs.cov hd b hg
                refine .pure hs hrun ?_
                by_cases hcl : m.getD c = l.getD 0
                · have e1 : hh'.getD len - l.getD 0 = 0 := by omega
                  have e2 : m.getD cap - l.getD 0 = 0 := by omega
                  have e3 : m.getD c - l.getD 0 = 0 := by omega
                  simp only [e1, e2, e3]
                  exact .slEmp _ _ _ hn
                · simp only [hcl, if_false, add_none, Nat.add_assoc]
                  refine .sl hd (o + l.getD 0 * sz) _ _ _ hn (by omega) (by omega) ?_
                  have hq : (φ hd).sz = sz := by rw [hsz', hbz]
                  rw [hq] at hf ⊢
                  have h1 : l.getD 0 * sz + (m.getD c - l.getD 0) * sz = m.getD c * sz := by rw [← Nat.add_mul]; congr 1; omega
                  have h2 : m.getD c * sz ≤ c * sz := Nat.mul_le_mul_right _ hle
                  omega
              · cases h
        | slEmp _ _ b hhn =>
          have hl0 : l.getD 0 = 0 := by omega
          have hh0 : hh'.getD 0 = 0 := by omega
          have hm0 : m.getD 0 = 0 := by omega
          have hr := run_bounds (P := P) (isSlice := true) (len := 0) (cap := 0) hl hh hm rl rh rm hc b1 b2 b3 w
          have hrun : (Instr.sliceAt t (.slice (some b) 0 0) lo' hi' mx').run P w = .ok (.slice (some b) 0 0) w := by
            simp only [Instr.sliceAt, Instr.slice, Sem.run_bind, run_underA hu, Result.andThen_ok, hr, run_sizeOf hsz, hl0, hh0, hm0]
            simp
          simp only at h
          by_cases hfree : m.isSome = true ∧ m.getD 0 = l.getD 0
          · rw [if_pos hfree] at h
            cases h
            exact .pure hs hrun (.slFree _)
          rw [if_neg hfree] at h
          simp only [hl0, if_true, Option.some.injEq] at h
          subst h
          exact .pure hs hrun (by rw [hh0, hm0]; exact .slEmp _ _ _ hhn)
        | slFree b =>
          have hl0 : l.getD 0 = 0 := by omega
          have hh0 : hh'.getD 0 = 0 := by omega
          have hm0 : m.getD 0 = 0 := by omega
          have hr := run_bounds (P := P) (isSlice := true) (len := 0) (cap := 0) hl hh hm rl rh rm hc b1 b2 b3 w
          have hrun : (Instr.sliceAt t (.slice (some b) 0 0) lo' hi' mx').run P w = .ok (.slice (some b) 0 0) w := by
            simp only [Instr.sliceAt, Instr.slice, Sem.run_bind, run_underA hu, Result.andThen_ok, hr, run_sizeOf hsz, hl0, hh0, hm0]
            simp
          simp only at h
          by_cases hfree : m.isSome = true ∧ m.getD 0 = l.getD 0
          · rw [if_pos hfree] at h
            cases h
            exact .pure hs hrun (.slFree _)
          rw [if_neg hfree] at h
          simp only [hl0, if_true, Option.some.injEq] at h
          subst h
          exact .pure hs hrun (by rw [hh0, hm0]; exact .slFree _)
      · cases h
  · cases h

theorem sound_fieldAt {P : Program} {base φ H w} (hs : Sim φ H w) {s : TypeId} {x x' v : Value} {f : Nat} (h : fieldAtA P s x f = some v) (hx : VRel H.length φ x x') : Sound P base φ H w (Instr.fieldAt s x' f) v H := by
  simp only [fieldAtA, Option.bind_eq_bind] at h
  cases hu : P.underlying s with
  | none => simp [hu] at h
  | some d =>
    cases d <;> try (simp [hu] at h; done)
    rename_i fields
    simp only [hu, Option.bind_some] at h
    cases hf : fields[f]? with
    | none => simp [hf] at h
    | some fd =>
      simp only [hf, Option.bind_some] at h
      cases x <;> try (simp at h; done)
      rename_i p
      cases p with
      | none => simp at h
      | some a =>
        simp only at h
        cases hsz : sizeA P fd.type with
        | none => simp [hsz] at h
        | some sz =>
          simp only [hsz, Option.bind_some] at h
          split at h
          · cases h
          · rename_i hc
            simp only [not_or] at hc
            simp only [Option.some.injEq] at h
            subst h
            obtain ⟨hn, ha, rfl⟩ := ptr_inv hx (by simpa using hc.1)
            refine .pure hs (v' := .pointer (some ⟨(φ a.block).B, (φ a.block).base + (a.off + fd.offset), none⟩)) ?_ (.ptr _ _ hn)
            simp [Instr.fieldAt, run_underA hu, hf, Instr.sureAddr, fieldPlace, run_sizeOf hsz, hc.2, add_none, Nat.add_assoc]

theorem sound_indexAt {P : Program} {base φ H w} (hs : Sim φ H w) {t : TypeId} {x x' i i' v : Value} (h : indexAtA P t x i = some v) (hx : VRel H.length φ x x') (hi : VRel H.length φ i i') : Sound P base φ H w (Instr.indexAt t x' i') v H := by
  simp only [indexAtA, Option.bind_eq_bind] at h
  cases i <;> try (simp at h; done)
  rename_i k i
  cases hi
  simp only at h
  cases hu : P.underlying t with
  | none => simp [hu] at h
  | some d =>
    simp only [hu, Option.bind_some] at h
    split at h
    · rename_i e a len cap
      split at h
      · rename_i hc
        obtain ⟨h0, h1, hsp⟩ := hc
        cases hsz : sizeA P e with
        | none => simp [hsz] at h
        | some sz =>
          simp only [hsz, Option.bind_some, Option.some.injEq] at h
          subst h
          cases hx with
          | sl hd o _ _ c hn hl hm hf =>
            refine .pure hs (v' := .pointer (some ⟨(φ hd).B, (φ hd).base + (o + i.toNat * sz), none⟩)) ?_ (.ptr _ _ hn)
            simp [Instr.indexAt, asIntOf, run_underA hu, h0, h1, run_sizeOf hsz, add_none, Nat.add_assoc]
          | slEmp => omega
          | slFree => simp [freeA] at hsp
      · cases h
    · cases h

theorem sound_index {P : Program} {base φ H w} (hs : Sim φ H w) {t : TypeId} {s : ByteArray} {k : IntKind} {i : Int} {b : UInt8} (hu : P.underlying t = some .string) (h0 : 0 ≤ i) (hb : s.data[i.toNat]? = some b) :
    Sound P base φ H w (Instr.index t (.string s) (.int k i)) (.int .u8 b.toNat) H := by
  have hb' : s[i.toNat]? = some b := by
    obtain ⟨hlt, e⟩ := Array.getElem?_eq_some_iff.1 hb
    have : i.toNat < s.size := hlt
    rw [getElem?_pos s i.toNat this]
    exact congrArg some e
  refine .pure hs (v' := .int .u8 b.toNat) ?_ (.int _ _)
  simp [Instr.index, asIntOf, run_underA hu, h0, hb']

theorem VRel.tuple_get {n φ x' v} {vs : Array Value} {i : Nat} (h : VRel n φ (.tuple vs) x') (hv : vs[i]? = some v) : ∃ (vs' : Array Value) (v' : Value), x' = .tuple vs' ∧ vs'[i]? = some v' ∧ VRel n φ v v' := by
  cases h with
  | tuple xs ys h1 h2 =>
    obtain ⟨hi, rfl⟩ := Array.getElem?_eq_some_iff.1 hv
    exact ⟨ys, ys[i]'(by omega), rfl, by simp [show i < ys.size by omega], h2 i hi (by omega)⟩

theorem sound_makeSlice {P : Program} {base φ H w} (hs : Sim φ H w) {t : TypeId} {l c l' c' v : Value} {H' : Heap} (h : makeSliceA P t l c H = some (v, H')) (hl : VRel H.length φ l l') (hc : VRel H.length φ c c') :
    Sound P base φ H w (Instr.makeSlice t l' c') v H' := by
  simp only [makeSliceA, Option.bind_eq_bind] at h
  cases hu : P.underlying t with
  | none => simp [hu] at h
  | some d =>
    cases d <;> try (simp [hu] at h; done)
    rename_i e
    simp only [hu, Option.bind_some] at h
    cases hi : P.info? e with
    | none => simp [hi] at h
    | some info =>
      simp only [hi, Option.bind_some] at h
      cases hz : info.zero with
      | none => simp [hz] at h
      | some z =>
        simp only [hz, Option.bind_some] at h
        cases l <;> try (simp at h; done)
        rename_i k1 l
        cases k1 <;> try (simp at h; done)
        cases c <;> try (simp at h; done)
        rename_i k2 c
        cases k2 <;> try (simp at h; done)
        cases hl; cases hc
        simp only at h
        split at h
        · rename_i hcond
          obtain ⟨h0, h1, h2, h3, h4, h5⟩ := hcond
          simp only [Option.some.injEq, Prod.mk.injEq] at h
          obtain ⟨rfl, rfl⟩ := h
          have hwl : IntKind.i64.wrap l = l := by simp [IntKind.wrap, IntKind.bits, IntKind.signed]; omega
          have hwc : IntKind.i64.wrap c = c := by simp [IntKind.wrap, IntKind.bits, IntKind.signed]; omega
          have hle : l.toNat * info.size ≤ c.toNat * info.size := Nat.mul_le_mul_right _ (by omega)
          obtain ⟨φ', hst, hφ⟩ := sound_newT (P := P) (base := base) (sz := info.size) hs (cells := ((Array.range (l.toNat * info.size)).map (z.cells[· % z.cells.size]!)).toList) (cs := (Array.range (c.toNat * info.size)).map (z.cells[· % z.cells.size]!)) e (by simpa using hle) (fun i v hv => by
            have hr := range_rel (n := H.length) (φ := φ) h4 (l.toNat * info.size)
            have hi := (List.getElem?_eq_some_iff.1 hv).1
            have hi2 : i < c.toNat * info.size := by simp at hi; omega
            refine ⟨v, ?_, hr.2 i v v hv hv⟩
            rw [← hv]
            simp at hi
            simp [hi, hi2]) (fun _ => by
            simp only [Array.size_map, Array.size_range]
            exact Nat.mul_le_mul_right _ (by omega))
          refine ⟨.slice (some ⟨w.heap.size, 0, none⟩) l.toNat c.toNat, w.alloc (.cells ((Array.range (c.toNat * info.size)).map (z.cells[· % z.cells.size]!)) e), φ', ?_, hst, ?_⟩
          · have g1 : ¬ (c < 0) := by omega
            have g2 : ¬ ((281474976710656 : Int) < (info.bytes : Int) * c) := by omega
            have g3 : ¬ (l < 0) := by omega
            have g4 : ¬ (c < l) := by omega
            have hzz : zeroA P e = some z := by simp [zeroA, hi, hz]
            by_cases hn : c.toNat * info.size = 0
            · have e1 : ((Array.range (c.toNat * info.size)).map (z.cells[· % z.cells.size]!)) = #[] := by rw [hn]; simp
              have e3 : (Array.map (fun _ => (default : Value)) (Array.range 0)) = #[] := by simp
              rw [e1]
              simp [Instr.makeSlice, run_underA hu, run_infoA hi, asInt, asIntOf, hwl, hwc, g1, g2, g3, g4, sizeOf, hn, newRow, e3]
            · simp [Instr.makeSlice, run_underA hu, run_infoA hi, asInt, asIntOf, hwl, hwc, g1, g2, g3, g4, sizeOf, hn, newRow, run_zeroA hzz]
          · have hs0 := VRel.sl (n := (newA H ((Array.range (l.toNat * info.size)).map (z.cells[· % z.cells.size]!)).toList info.size).length) (φ := φ') H.length 0 l.toNat l.toNat c.toNat (by simp [newA, newB]) (Nat.le_refl _) (by omega) (by rw [hφ]; simp)
            rw [hφ] at hs0
            simpa [atNew] using hs0
        · cases h

end Go.AM

/- An abstract machine over Go's operations: append, copy, clear are sound. -/
namespace Go.AM
open Go

theorem Sim.heap {φ H} {w w1 : World} (hs : Sim φ H w) (h : w1.heap = w.heap) : Sim φ H w1 :=
  ⟨fun i b hg => by obtain ⟨c, e, fr, hB, r⟩ := hs.cov i b hg; exact ⟨c, e, fr, by rw [h]; exact hB, r⟩, hs.apart, hs.par, hs.parlt⟩

theorem Step.draw {base φ H w} {w1 : World} (hs : Sim φ H w) (h : w1.heap = w.heap) (ho : w1.os = w.os) (ht : w1.tape = w.tape) (hu : w1.output = w.output) : Step base φ H w φ H w1 :=
  ⟨Nat.le_refl _, fun _ _ => rfl, by rw [h]; exact Nat.le_refl _, ho, ht, hu, fun _ _ _ => by rw [h], fun h b' _ hb => ⟨b', hb, id⟩, fun h b hb hg hr => .inr ⟨h, b, hb, hg, hr, rfl⟩, hs.heap h⟩

theorem run_first {P : Program} {φ H w} (hs : Sim φ H w) {sz n m : Nat} {x x' : Value} {new : List Value} (h : firstA H sz n x = some new) (hx : VRel H.length φ x x') (hl : lenA x = some m) (hn : n ≤ m) :
    ∃ new', LRel H.length φ new new' ∧ (Builtin.firstCells sz n x').run P w = .ok new'.toArray w := by
  cases hx <;> simp only [firstA] at h <;> try (cases h; done)
  case slNil => cases h; exact ⟨[], .nil, rfl⟩
  case string s =>
    cases h
    refine ⟨_, .of_scalar (fun v hv => ?_), ?_⟩
    · simp only [List.mem_map] at hv
      obtain ⟨b, _, rfl⟩ := hv
      rfl
    · simp only [Builtin.firstCells, Sem.run_pure]
      congr 1
      apply Array.ext'
      simp
  case sl hd o l mm c hh hl' hm hf =>
    split at h
    · rename_i h0
      cases h
      exact ⟨[], .nil, by simp [Builtin.firstCells, loadCells, loadCellsFrom, h0]⟩
    obtain ⟨cs', hrel, _, _, hrun⟩ := run_read (P := P) hs h
    exact ⟨cs', hrel, by simpa [Builtin.firstCells] using hrun⟩
  case slEmp _ _ b hhn =>
    simp only [lenA, Option.some.injEq] at hl
    have : n = 0 := by omega
    subst this
    simp at h
    subst h
    exact ⟨[], .nil, by simp [Builtin.firstCells, loadCells, loadCellsFrom]⟩
  case slFree b =>
    simp only [lenA, Option.some.injEq] at hl
    have : n = 0 := by omega
    subst this
    simp at h
    subst h
    exact ⟨[], .nil, by simp [Builtin.firstCells, loadCells, loadCellsFrom]⟩

theorem run_lenOf {P : Program} {n φ x x' m} (h : lenA x = some m) (hx : VRel n φ x x') (w : World) : (Builtin.lenOf x').run P w = .ok m w := by
  cases hx <;> simp only [lenA] at h <;> try (cases h; done)
  all_goals cases h; rfl

/-- A block is written no more. -/
theorem step_ro {base φ H w} (hs : Sim φ H w) {h : Nat} {b : Blk} (hg : hget H h = some b) : Step base φ H w φ (hset H h (some { b with rw := false })) w := by
  have hlt := hget_lt hg
  have back : ∀ i c, hget (hset H h (some { b with rw := false })) i = some c → ∃ c0, hget H i = some c0 ∧ (c.rw = true → c0.rw = true ∧ i ≠ h) ∧ c0.cells = c.cells ∧ c0.sz = c.sz ∧ c0.lo = c.lo ∧ c0.par = c.par ∧ (i ≠ h → c0 = c) ∧ (c0.rw = false → c.rw = false) := by
    intro i c hi
    by_cases he : i = h
    · subst he
      rw [hget_set_eq hlt] at hi
      cases hi
      exact ⟨b, hg, (fun h => by cases h), rfl, rfl, rfl, rfl, (fun h => absurd rfl h), fun _ => rfl⟩
    · rw [hget_set_ne (Ne.symm he)] at hi
      exact ⟨c, hi, fun h => ⟨h, he⟩, rfl, rfl, rfl, rfl, fun _ => rfl, id⟩
  refine ⟨by simp [length_hset], fun _ _ => rfl, Nat.le_refl _, rfl, rfl, rfl, fun _ _ _ => rfl, ?_, ?_, ?_, ?_, ?_, ?_⟩
  · intro i c _ hi
    obtain ⟨c0, k0, k1, _⟩ := back i c hi
    exact ⟨c0, k0, fun hr => (k1 hr).1⟩
  · intro i c hb hi hr
    obtain ⟨c0, k0, k1, _⟩ := back i c hi
    exact .inr ⟨i, c0, hb, k0, (k1 hr).1, rfl⟩
  · intro i c hi
    obtain ⟨c0, k0, k1, k2, k3, k4, k5, k6, _⟩ := back i c hi
    obtain ⟨d, e, fr, hB, g1, g2, g3, g4, g5, g6⟩ := hs.cov i c0 k0
    rw [length_hset]
    exact ⟨d, e, fr, hB, k2 ▸ g1, g2, g3.trans k3, k2 ▸ g4, fun hr => g5 (k1 hr).1, by rw [← k4, ← k2]; exact g6⟩
  · intro i j c d hne hi hj hr
    obtain ⟨c0, k0, k1, k2, k3, k4, k5, k6, _⟩ := back i c hi
    obtain ⟨d0, l0, l1, l2, l3, l4, l5, l6, l7⟩ := back j d hj
    have := hs.apart i j c0 d0 hne k0 l0 (k1 hr).1
    obtain rfl := k6 (k1 hr).2
    have hle : rEnd (φ j) d ≤ rEnd (φ j) d0 := by
      obtain ⟨_, _, _, _, q1, _⟩ := hs.cov j d0 l0
      unfold rEnd
      rw [l2] at q1 ⊢
      cases hd : d.rw with
      | true => rw [(l1 hd).1]; exact Nat.le_refl _
      | false => simp only [Bool.false_eq_true, if_false]; split <;> omega
    omega
  · intro i c p d hi hp hj
    obtain ⟨c0, k0, k1, k2, k3, k4, k5, k6, _⟩ := back i c hi
    obtain ⟨d0, l0, l1, l2, l3, l4, l5, l6, l7⟩ := back p d hj
    exact l7 (hs.par i c0 p d0 k0 (k5 ▸ hp) l0)
  · intro i c p hi hp
    obtain ⟨c0, k0, k1, k2, k3, k4, k5, k6, _⟩ := back i c hi
    rw [length_hset]
    exact hs.parlt i c0 p k0 (k5 ▸ hp)

/-- A block goes on under a new number; the old one may be read on. -/
theorem step_fork {base φ H w} (hs : Sim φ H w) {h : Nat} {b : Blk} (hg : hget H h = some b) (hrw : b.rw = true) (hbase : base ≤ h) {o fin : Nat} (ho : o ≤ b.cells.length) (hf : fin ≤ (φ h).fin) (hf2 : (φ h).base + b.cells.length ≤ fin) :
    Step base φ H w (extP φ H.length ⟨(φ h).B, (φ h).base + o, fin, b.sz⟩) (newB (hset H h (some { b with rw := false })) ⟨b.cells.drop o, b.sz, true, b.cells.length - o, h :: b.par⟩) w := by
  have hlt := hget_lt hg
  have st := step_ro (base := base) hs hg
  have hl : (hset H h (some { b with rw := false })).length = H.length := length_hset
  have hlen : (newB (hset H h (some { b with rw := false })) ⟨b.cells.drop o, b.sz, true, b.cells.length - o, h :: b.par⟩).length = H.length + 1 := by simp [newB, length_hset]
  have hk : ∀ i, i < H.length → extP φ H.length ⟨(φ h).B, (φ h).base + o, fin, b.sz⟩ i = φ i := fun i hi => extP_lt hi
  have hold : ∀ i c, i < H.length → hget (newB (hset H h (some { b with rw := false })) ⟨b.cells.drop o, b.sz, true, b.cells.length - o, h :: b.par⟩) i = some c → hget (hset H h (some { b with rw := false })) i = some c := fun i c hi hg' => by
    rwa [newB, hget_new_old (by rw [hl]; exact hi)] at hg'
  have hnew : hget (newB (hset H h (some { b with rw := false })) ⟨b.cells.drop o, b.sz, true, b.cells.length - o, h :: b.par⟩) H.length = some ⟨b.cells.drop o, b.sz, true, b.cells.length - o, h :: b.par⟩ := by
    have := hget_new_at (H := hset H h (some { b with rw := false })) (b := some ⟨b.cells.drop o, b.sz, true, b.cells.length - o, h :: b.par⟩)
    rw [hl] at this
    exact this
  have hroh : hget (hset H h (some { b with rw := false })) h = some { b with rw := false } := hget_set_eq hlt
  obtain ⟨c, e, fr, hB, g1, g2, g3, g4, g5, g6⟩ := hs.cov h b hg
  have s2 : Step base φ (hset H h (some { b with rw := false })) w (extP φ H.length ⟨(φ h).B, (φ h).base + o, fin, b.sz⟩) (newB (hset H h (some { b with rw := false })) ⟨b.cells.drop o, b.sz, true, b.cells.length - o, h :: b.par⟩) w → Step base φ H w (extP φ H.length ⟨(φ h).B, (φ h).base + o, fin, b.sz⟩) (newB (hset H h (some { b with rw := false })) ⟨b.cells.drop o, b.sz, true, b.cells.length - o, h :: b.par⟩) w := fun s => st.trans s
  refine ⟨by omega, hk, Nat.le_refl _, rfl, rfl, rfl, fun _ _ _ => rfl, ?_, ?_, ?_, ?_, ?_, ?_⟩
  · intro i c hi hg'
    exact st.old i c hi (hold i c hi hg')
  · intro i c hi hg' hr
    have hlt' := hget_lt hg'
    rw [hlen] at hlt'
    rcases Nat.lt_or_ge i H.length with h1 | h1
    · rw [hk i h1]; exact st.later i c hi (hold i c h1 hg') hr
    · have : i = H.length := by omega
      subst this
      rw [extP_eq]
      exact .inr ⟨h, b, hbase, hg, hrw, rfl⟩
  · intro i d hg'
    have hlt' := hget_lt hg'
    rw [hlen] at hlt' ⊢
    rcases Nat.lt_or_ge i H.length with h1 | h1
    · obtain ⟨c', e', fr', hB', k1, k2, k3, k4, k5⟩ := st.sim.cov i d (hold i d h1 hg')
      rw [hk i h1]
      exact ⟨c', e', fr', hB', k1, k2, k3, fun j v hv => let ⟨v', hv', hr⟩ := k4 j v hv; ⟨v', hv', hr.mono (by rw [hl]; omega) (by rw [hl]; exact hk)⟩, k5⟩
    · have : i = H.length := by omega
      subst this
      rw [hnew] at hg'
      cases hg'
      rw [extP_eq]
      refine ⟨c, e, fr, hB, by simp; omega, by simp; omega, rfl, fun j v hv => ?_, fun _ => ⟨fun j h1 h2 => (g5 hrw).1 j (by simp at h1; omega) (h2.elim (fun h2 => .inl (by simp at h2; omega)) (fun h2 => .inr (by rw [g3]; exact h2))), fun h => by
        have := (g5 hrw).2 (by rw [g3]; exact h)
        rw [g3] at this
        dsimp only
        omega⟩, by simp⟩
      rw [List.getElem?_drop] at hv
      obtain ⟨v', hv', hr⟩ := g4 (o + j) v hv
      exact ⟨v', by simpa [Nat.add_assoc] using hv', hr.mono (by omega) hk⟩
  · intro i j c d hne h1 h2 hr
    have l1 := hget_lt h1
    have l2 := hget_lt h2
    rw [hlen] at l1 l2
    rcases Nat.lt_or_ge i H.length with a1 | a1 <;> rcases Nat.lt_or_ge j H.length with a2 | a2
    · rw [hk i a1, hk j a2]
      exact st.sim.apart i j c d hne (hold i c a1 h1) (hold j d a2 h2) hr
    · have : j = H.length := by omega
      subst this
      have hi := hold i c a1 h1
      rw [hnew] at h2
      cases h2
      rw [hk i a1, extP_eq]
      have hih : i ≠ h := by
        intro he
        subst he
        rw [hroh] at hi
        cases hi
        cases hr
      have hi0 : hget H i = some c := by rwa [hget_set_ne (Ne.symm hih)] at hi
      have := hs.apart i h c b hih hi0 hg hr
      have hnp : h ∉ c.par := fun hm => by
        have := hs.par i c h b hi0 hm hg
        rw [hrw] at this
        cases this
      have hnp2 : H.length ∉ c.par := fun hm => absurd (hs.parlt i c _ hi0 hm) (Nat.lt_irrefl _)
      have w1 : wBeg (φ i) c h = (φ i).base := by unfold wBeg; simp [hnp]
      have w2 : wBeg (φ i) c H.length = (φ i).base := by unfold wBeg; simp [hnp2]
      have r1 : rEnd (φ h) b = (φ h).fin := by unfold rEnd; simp [hrw]
      rw [w2]
      rw [w1, r1] at this
      simp only [rEnd, if_true]
      omega
    · have : i = H.length := by omega
      subst this
      have hj := hold j d a2 h2
      rw [hnew] at h1
      cases h1
      rw [hk j a2, extP_eq]
      by_cases hjh : j = h
      · subst hjh
        rw [hroh] at hj
        cases hj
        right; right
        simp only [rEnd, wBeg, List.mem_cons, true_or, if_true, Bool.false_eq_true, if_false]
        omega
      · have hj0 : hget H j = some d := by rwa [hget_set_ne (Ne.symm hjh)] at hj
        have := hs.apart h j b d (Ne.symm hjh) hg hj0 hrw
        by_cases hjp : j ∈ b.par
        · have w1 : wBeg (φ h) b j = (φ h).base + b.lo := by unfold wBeg; simp [hjp]
          rw [w1] at this
          simp only [wBeg, List.mem_cons, hjp, or_true, if_true]
          omega
        · have w1 : wBeg (φ h) b j = (φ h).base := by unfold wBeg; simp [hjp]
          rw [w1] at this
          simp only [wBeg, List.mem_cons, hjp, hjh, or_self, if_false]
          omega
    · omega
  · intro i c p d hi hp hj
    have l1 := hget_lt hi
    rw [hlen] at l1
    rcases Nat.lt_or_ge i H.length with a1 | a1
    · have hi' := hold i c a1 hi
      have hpl := st.sim.parlt i c p hi' hp
      rw [hl] at hpl
      exact st.sim.par i c p d hi' hp (hold p d hpl hj)
    · have : i = H.length := by omega
      subst this
      rw [hnew] at hi
      cases hi
      rcases List.mem_cons.1 hp with rfl | hp
      · have hj' := hold _ d hlt hj
        rw [hroh] at hj'
        cases hj'
        rfl
      · have hpl := hs.parlt h b p hg hp
        have hj' := hold p d hpl hj
        have hb' : (({ b with rw := false } : Blk)).par = b.par := rfl
        exact st.sim.par h { b with rw := false } p d hroh (by rw [hb']; exact hp) hj'
  · intro i c p hi hp
    have l1 := hget_lt hi
    rw [hlen] at l1 ⊢
    rcases Nat.lt_or_ge i H.length with a1 | a1
    · have := st.sim.parlt i c p (hold i c a1 hi) hp
      rw [hl] at this
      omega
    · have : i = H.length := by omega
      subst this
      rw [hnew] at hi
      cases hi
      rcases List.mem_cons.1 hp with rfl | hp
      · omega
      · have := hs.parlt h b p hg hp
        omega

/-- One cell more, behind the last, where there is room. -/
theorem step_grow {base φ H w} (hs : Sim φ H w) {h : Nat} {b : Blk} (hg : hget H h = some b) (hrw : b.rw = true) (hbase : base ≤ h) (ho : (φ h).base + b.cells.length < (φ h).fin) {v v' : Value} (hv : VRel H.length φ v v') :
    (∃ u, w.cell? ⟨(φ h).B, (φ h).base + b.cells.length, none⟩ = some u) ∧ w.frozen? ⟨(φ h).B, (φ h).base + b.cells.length, none⟩ = false ∧
      Step base φ H w φ (hset H h (some { b with cells := b.cells ++ [v] })) (w.setCell ⟨(φ h).B, (φ h).base + b.cells.length, none⟩ v') := by
  obtain ⟨c, e, fr, hB, g1, g2, g3, g4, g5, g6⟩ := hs.cov h b hg
  have hlt := hget_lt hg
  have hcs : (φ h).base + b.cells.length < c.size := by omega
  have hnew : (w.setCell ⟨(φ h).B, (φ h).base + b.cells.length, none⟩ v').heap[(φ h).B]? = some (.cells (c.setIfInBounds ((φ h).base + b.cells.length) v') e fr) := by
    simp [World.setCell, Array.getElem?_modify, hB]
  have hoth : ∀ k, k ≠ (φ h).B → (w.setCell ⟨(φ h).B, (φ h).base + b.cells.length, none⟩ v').heap[k]? = w.heap[k]? := fun k hk => heap_setCell_other w _ k v' hk
  refine ⟨⟨_, by rw [cell_of_row w _ _ c e fr hB]; exact Array.getElem?_eq_getElem hcs⟩, ?_, ?_⟩
  · have := (g5 hrw).1 ((φ h).base + b.cells.length) (by omega) (.inl (by omega))
    simp only [World.frozen?, hB]
    simp only [Bool.and_eq_false_imp, decide_eq_true_eq, decide_eq_false_iff_not]
    omega
  · have back : ∀ h' b', hget (hset H h (some { b with cells := b.cells ++ [v] })) h' = some b' → ∃ b0, hget H h' = some b0 ∧ b0.rw = b'.rw ∧ b0.lo = b'.lo ∧ b0.par = b'.par ∧ rEnd (φ h') b0 = rEnd (φ h') b' := by
      intro h' b' hg'
      by_cases he : h' = h
      · subst he
        rw [hget_set_eq hlt] at hg'
        cases hg'
        exact ⟨b, hg, rfl, rfl, rfl, by unfold rEnd; simp [hrw]⟩
      · rw [hget_set_ne (Ne.symm he)] at hg'
        exact ⟨b', hg', rfl, rfl, rfl, rfl⟩
    refine ⟨by simp [length_hset], fun _ _ => rfl, by simp [World.setCell], rfl, rfl, rfl, ?_, ?_, ?_, ?_, ?_, ?_, ?_⟩
    · intro k hk hn
      exact hoth k fun e => hn h b hbase hg hrw e.symm
    · intro h' b' hh' hg'
      obtain ⟨b0, k0, k1, _⟩ := back h' b' hg'
      exact ⟨b0, k0, fun hr => k1.trans hr⟩
    · intro h' b' hb' hg' hr'
      obtain ⟨b0, k0, k1, _⟩ := back h' b' hg'
      exact .inr ⟨h', b0, hb', k0, k1.trans hr', rfl⟩
    · intro h' b' hg'
      rw [length_hset]
      by_cases he : h' = h
      · subst he
        rw [hget_set_eq hlt] at hg'
        cases hg'
        refine ⟨_, e, fr, hnew, by simp; omega, by simpa using g2, g3, fun i u hu => ?_, g5, by simp; omega⟩
        rcases Nat.lt_trichotomy i b.cells.length with hi | hi | hi
        · simp only [List.getElem?_append_left hi] at hu
          obtain ⟨u', hu', hrel⟩ := g4 i u hu
          exact ⟨u', by rw [Array.getElem?_setIfInBounds_ne (by omega)]; exact hu', hrel⟩
        · subst hi
          simp at hu
          subst hu
          exact ⟨v', by simp [hcs], hv⟩
        · rw [List.getElem?_eq_none (by simp; omega)] at hu
          cases hu
      · rw [hget_set_ne (Ne.symm he)] at hg'
        obtain ⟨c', e', fr', hB', k1, k2, k3, k4, k5, k6⟩ := hs.cov h' b' hg'
        by_cases hBB : (φ h').B = (φ h).B
        · rw [hBB, hB] at hB'
          cases hB'
          refine ⟨_, e, fr, by rw [hBB]; exact hnew, k1, by simpa using k2, k3, fun i u hu => ?_, k5, k6⟩
          obtain ⟨u', hu', hrel⟩ := k4 i u hu
          refine ⟨u', ?_, hrel⟩
          have hi := (List.getElem?_eq_some_iff.1 hu).1
          have := hs.apart h h' b b' (Ne.symm he) hg hg' hrw
          have q1 := @wBeg_le (φ h) b h'
          have q2 := le_rEnd k1
          rw [Array.getElem?_setIfInBounds_ne (by omega)]
          exact hu'
        · exact ⟨c', e', fr', by rw [hoth _ hBB]; exact hB', k1, k2, k3, k4, k5, k6⟩
    · intro h1 h2 b1 b2 hne k1 k2 kr
      obtain ⟨b1', k1', e1, e1l, e1p, _⟩ := back h1 b1 k1
      obtain ⟨b2', k2', e2, e2l, e2p, e2r⟩ := back h2 b2 k2
      have := hs.apart h1 h2 b1' b2' hne k1' k2' (e1.trans kr)
      rw [e2r] at this
      unfold wBeg at this ⊢
      rw [e1l, e1p] at this
      exact this
    · intro h1 b1 p b' k1 hp k2
      obtain ⟨b1', k1', e1, e1l, e1p, _⟩ := back h1 b1 k1
      obtain ⟨b2', k2', e2, _⟩ := back p b' k2
      rw [← e2]
      exact hs.par h1 b1' p b2' k1' (e1p ▸ hp) k2'
    · intro h1 b1 p k1 hp
      obtain ⟨b1', k1', e1, e1l, e1p, _⟩ := back h1 b1 k1
      rw [length_hset]
      exact hs.parlt h1 b1' p k1' (e1p ▸ hp)

theorem hset_same {H : Heap} {h : Nat} {b : Blk} (hg : hget H h = some b) : hset H h (some b) = H := by
  have hlt := hget_lt hg
  apply List.ext_getElem?
  intro k
  simp only [hset, List.getElem?_set]
  split
  · rename_i hk; subst hk
    simp only [hget] at hg
    rw [List.getElem?_eq_getElem hlt] at hg ⊢
    simp at hg
    simp [hlt, hg]
  · rfl

theorem run_growAux {P : Program} {base φ} {h : Nat} {a : Addr} : ∀ (vs vs' : List Value) (i : Nat) {H w} (_ : Sim φ H w) {b : Blk} (_ : hget H h = some b) (_ : b.rw = true) (_ : base ≤ h)
    (_ : a = ⟨(φ h).B, a.off, none⟩) (_ : a.off + i = (φ h).base + b.cells.length) (_ : (φ h).base + b.cells.length + vs.length ≤ (φ h).fin) (_ : vs.all Value.oneCell' = true) (_ : LRel H.length φ vs vs'),
    ∃ w', (storeCells a vs' i).run P w = .ok () w' ∧ Step base φ H w φ (hset H h (some { b with cells := b.cells ++ vs })) w'
  | [], [], i, H, w, hs, b, hg, _, _, _, _, _, _, _ => by
    refine ⟨w, rfl, ?_⟩
    have : hset H h (some { b with cells := b.cells ++ [] }) = H := by simpa using hset_same hg
    rw [this]
    exact .refl hs
  | [], _ :: _, _, _, _, _, _, _, _, _, _, _, _, _, h => by simp [LRel] at h
  | _ :: _, [], _, _, _, _, _, _, _, _, _, _, _, _, h => by simp [LRel] at h
  | v :: vs, v' :: vs', i, H, w, hs, b, hg, hrw, hb, ha, hi, hl, h1, hrel => by
    simp only [List.length_cons] at hl
    simp only [List.all_cons, Bool.and_eq_true] at h1
    have hlt := hget_lt hg
    obtain ⟨⟨u, hu⟩, hfz, st⟩ := step_grow hs hg hrw hb (by omega) hrel.head
    have hg1 : hget (hset H h (some { b with cells := b.cells ++ [v] })) h = some { b with cells := b.cells ++ [v] } := hget_set_eq hlt
    obtain ⟨w', hrun, st'⟩ := run_growAux (P := P) (base := base) (h := h) (a := a) vs vs' (i + 1) st.sim hg1 hrw hb ha (by simp; omega) (by simp; omega) h1.2 (by rw [length_hset]; exact hrel.tail)
    refine ⟨w', ?_, ?_⟩
    · rw [ha] at hrun ⊢
      simp only [storeCells, Sem.run_bind, add_none]
      rw [hi, run_store P w _ v' .plain (by rw [hrel.head.oneCell]; exact h1.1), hu]
      simp only [hfz, Bool.false_eq_true, if_false, Result.andThen]
      exact hrun
    · have := st.trans st'
      rw [hset_hset] at this
      simpa using this

theorem run_append_room {P : Program} {at_ : Array TypeId} {ty : TypeId} {x : Value} {st xt e : TypeId} {a : Option Addr} {len cap n : Nat} {info : TypeInfo} {d : TypeDesc} {w w' : World} {new : List Value}
    (h0 : at_[0]? = some st) (hu : P.underlying st = some (.slice e)) (h1 : at_[1]? = some xt) (hx : P.underlying xt = some d) (hd : (∃ u, d = .slice u) ∨ d = .string)
    (hi : P.info? e = some info) (hn : (Builtin.lenOf x).run P w = .ok n w) (hle : len + n ≤ cap)
    (hf : (Builtin.firstCells info.size n x).run P w = .ok new.toArray w) (hst : ∀ b, a = some b → (storeCells (b.add (len * info.size)) new).run P w = .ok () w') (hnone : a = none → w' = w) :
    (Builtin.append_ at_ ty #[.slice a len cap, x]).run P w = .ok (.slice a (len + n) cap) w' := by
  cases a with
  | none =>
    obtain rfl := hnone rfl
    rcases hd with ⟨u, rfl⟩ | rfl <;>
      simp [Builtin.append_, h0, h1, run_underA hu, run_underA hx, sizeOf, typeInfo, zeroValue, hi, hn, hle, hf]
  | some b =>
    have hst := hst b rfl
    rcases hd with ⟨u, rfl⟩ | rfl <;>
      simp [Builtin.append_, h0, h1, run_underA hu, run_underA hx, sizeOf, typeInfo, zeroValue, hi, hn, hle, hf, hst]

theorem run_append_new {P : Program} {at_ : Array TypeId} {ty : TypeId} {x : Value} {st xt e : TypeId} {a : Option Addr} {len cap n : Nat} {info : TypeInfo} {z : Value} {d : TypeDesc} {w : World} {new old : List Value}
    (h0 : at_[0]? = some st) (hu : P.underlying st = some (.slice e)) (h1 : at_[1]? = some xt) (hx : P.underlying xt = some d) (hd : (∃ u, d = .slice u) ∨ d = .string)
    (hi : P.info? e = some info) (hz : info.zero = some z) (hn : (Builtin.lenOf x).run P w = .ok n w) (hle : cap < len + n) (hb : (len + n) * info.bytes ≤ 2 ^ 47) (hc : len + n < 2 ^ 62)
    (hf : (Builtin.firstCells info.size n x).run P w.drew = .ok new.toArray w.drew) (ho : (Builtin.firstCells info.size len (.slice a len cap)).run P w.drew = .ok old.toArray w.drew) :
    (Builtin.append_ at_ ty #[.slice a len cap, x]).run P w = .ok (.slice (some ⟨w.heap.size, 0, none⟩) (len + n) (grownCap w (len + n) cap e))
      (w.drew.alloc (.cells (old.toArray ++ new.toArray ++ Builtin.zeroCells z.cells (grownCap w (len + n) cap e - (len + n))) e)) := by
  have hle' : ¬ (len + n ≤ cap) := by omega
  have h63 : ¬ (9223372036854775807 < ((len : Int) + (n : Int))) := by omega
  have h48 : ¬ (281474976710656 < Builtin.nextslicecap (len + n) cap * info.bytes) := by
    have := nextslicecap_le hle
    have h2 := Nat.mul_le_mul_right info.bytes this
    have h3 : 2 * (len + n) * info.bytes = 2 * ((len + n) * info.bytes) := Nat.mul_assoc ..
    omega
  rcases hd with ⟨u, rfl⟩ | rfl <;>
    (simp [Builtin.append_, h0, h1, run_underA hu, run_underA hx, sizeOf, typeInfo, zeroValue, hi, hz, hn, hle', h63, h48, Question.forced, hf, ho, newRow, grownCap]
     congr 2
     apply Array.ext'
     simp [List.append_assoc])

/-- Behind an append that made a new row. -/
theorem sound_grown {P : Program} {base φ H w} (hs : Sim φ H w) {old old' new new' : List Value} {e : TypeId} {info : TypeInfo} {z : Value} {need cap lo : Nat} {par : List Nat} {s : Sem Value}
    (ho : LRel H.length φ old old') (hn : LRel H.length φ new new') (hz : z.cells.size = info.size) (hneed : need < 2 ^ 62) (hl : old.length + new.length = need * info.size) (hlo : lo ≤ (old ++ new).length) (hpar : ∀ p ∈ par, p < H.length ∧ ∀ b', hget H p = some b' → b'.rw = false)
    (hr : s.run P w = .ok (.slice (some ⟨w.heap.size, 0, none⟩) need (grownCap w need cap e)) (w.drew.alloc (.cells (old'.toArray ++ new'.toArray ++ Builtin.zeroCells z.cells (grownCap w need cap e - need)) e))) :
    Sound P base φ H w s (.slice (some (atNew H)) need need) (newB H ⟨old ++ new, info.size, true, lo, par⟩) := by
  have hge := grownCap_ge w need cap e
  have hsz : (old'.toArray ++ new'.toArray ++ Builtin.zeroCells z.cells (grownCap w need cap e - need)).size = grownCap w need cap e * info.size := by
    have h1 := ho.1
    have h2 := hn.1
    simp only [Array.size_append, List.size_toArray, Builtin.zeroCells, Array.size_map, Array.size_range, hz]
    rw [← h1, ← h2, hl, ← Nat.add_mul]
    congr 1
    omega
  have hdr : Step base φ H w φ H w.drew := .draw hs rfl rfl rfl rfl
  have hle : (old ++ new).length ≤ (old'.toArray ++ new'.toArray ++ Builtin.zeroCells z.cells (grownCap w need cap e - need)).size := by
    rw [hsz, List.length_append, hl]
    exact Nat.mul_le_mul_right _ hge
  have st := step_newB (base := base) (nb := ⟨old ++ new, info.size, true, lo, par⟩) (e := e) (fr := (0, 0)) (w1 := w.drew.alloc (.cells (old'.toArray ++ new'.toArray ++ Builtin.zeroCells z.cells (grownCap w need cap e - need)) e))
    hdr.sim rfl rfl rfl rfl hle (Nat.le_refl _) (fun i _ h => by simp at h) (fun _ => by
      rw [hsz]
      refine Nat.mul_le_mul_right _ ?_
      have := grownCap_le_maxLen w need cap e (by unfold maxLen; omega)
      unfold maxLen at this
      omega) hlo hpar (fun i v hv => by
      have hon := ho.append hn
      have hi := (List.getElem?_eq_some_iff.1 hv).1
      have hi' : i < (old' ++ new').length := by rw [← hon.1]; exact hi
      refine ⟨(old' ++ new')[i], ?_, hon.2 i v _ hv (List.getElem?_eq_getElem hi')⟩
      rw [Array.getElem?_append_left (by simpa using hi')]
      rw [List.append_toArray, List.getElem?_toArray, List.getElem?_eq_getElem hi'])
  refine ⟨_, _, _, hr, hdr.trans st, ?_⟩
  have := VRel.sl (n := (newB H ⟨old ++ new, info.size, true, lo, par⟩).length) (φ := extP φ H.length ⟨w.drew.heap.size, 0, (old'.toArray ++ new'.toArray ++ Builtin.zeroCells z.cells (grownCap w need cap e - need)).size, info.size⟩) H.length 0 need need (grownCap w need cap e)
    (by simp [newB]) (Nat.le_refl _) hge (by rw [extP_eq]; simp only [hsz]; omega)
  rw [extP_eq] at this
  simpa [atNew] using this

theorem sound_append {P : Program} {base φ H w} (hs : Sim φ H w) {at_ : Array TypeId} {ty : TypeId} {s x s' x' v : Value} {H' : Heap} (h : appendA P base at_ s x H = some (v, H')) (hsr : VRel H.length φ s s') (hxr : VRel H.length φ x x') :
    Sound P base φ H w (Builtin.append_ at_ ty #[s', x']) v H' := by
  simp only [appendA, Option.bind_eq_bind] at h
  cases h0 : at_[0]? with
  | none => simp [h0] at h
  | some st =>
  cases hu : P.underlying st with
  | none => simp [h0, hu] at h
  | some d0 =>
  cases d0 <;> try (simp [h0, hu] at h; done)
  rename_i e
  cases h1 : at_[1]? with
  | none => simp [h0, hu, h1] at h
  | some xt =>
  simp only [h0, hu, h1, Option.bind_some] at h
  split at h
  · cases h
  rename_i hxt
  cases hx : P.underlying xt with
  | none => simp [hx] at hxt
  | some d =>
  have hd : (∃ u, d = .slice u) ∨ d = .string := by
    cases d <;> simp [hx] at hxt
    · exact .inr rfl
    · exact .inl ⟨_, rfl⟩
  cases hi : P.info? e with
  | none => simp [hi, sizeA] at h
  | some info =>
  have hszA : sizeA P e = some info.size := by simp [sizeA, hi]
  simp only [hszA, hi, Option.bind_some] at h
  cases hz : info.zero with
  | none => simp [hz] at h
  | some z =>
  simp only [hz, Option.bind_some] at h
  split at h
  · cases h
  rename_i hzs
  have hzs : z.cells.size = info.size := by simpa using hzs
  cases hn : lenA x with
  | none => simp [hn] at h
  | some n =>
  cases hf : firstA H info.size n x with
  | none => simp [hn, hf] at h
  | some new =>
  simp only [hn, hf, Option.bind_some] at h
  have hnr := run_lenOf (P := P) hn hxr w
  obtain ⟨new', hnew, hfr⟩ := run_first (P := P) hs hf hxr hn (Nat.le_refl _)
  have hdr : Sim φ H w.drew := hs.heap rfl
  obtain ⟨new2, hnew2, hfr2⟩ := run_first (P := P) hdr hf hxr hn (Nat.le_refl _)
  cases s <;> try (simp at h; done)
  rename_i a len cap
  simp only at h
  split at h
  · cases h
  rename_i hnl
  have hnl : new.length = n * info.size := by simpa using hnl
  split at h
  · rename_i hle
    split at h
    · rename_i h0n
      simp only [Option.some.injEq, Prod.mk.injEq] at h
      obtain ⟨rfl, rfl⟩ := h
      have hn0 : new' = [] := by
        have := hnew.1
        rw [hnl, h0n] at this
        exact List.eq_nil_of_length_eq_zero this.symm
      subst hn0
      cases hsr with
      | slNil _ _ => exact .pure hs (run_append_room h0 hu h1 hx hd hi hnr hle hfr (fun b hb => by cases hb) (fun _ => rfl)) (.slNil _ _)
      | sl hd' o _ _ c hh hl hm hff => exact .pure hs (run_append_room (w' := w) h0 hu h1 hx hd hi hnr (by omega) hfr (fun b _ => rfl) (fun hb => rfl)) (.sl hd' o _ _ c hh hle hm hff)
      | slEmp _ _ b hhn =>
        have hn0 : n = 0 := by omega
        subst hn0
        exact .pure hs (run_append_room (w' := w) h0 hu h1 hx hd hi hnr (by omega) hfr (fun b _ => rfl) (fun hb => rfl)) (.slEmp _ _ _ hhn)
      | slFree b =>
        have hn0 : n = 0 := by omega
        subst hn0
        exact .pure hs (run_append_room (w' := w) h0 hu h1 hx hd hi hnr (by omega) hfr (fun b _ => rfl) (fun hb => rfl)) (.slFree _)
    · rename_i h0n
      cases a with
      | none => simp at h
      | some a =>
        simp only at h
        split at h
        · cases h
        · rename_i hsp
          cases hw : writeA base ⟨a.block, a.off + len * info.size, none⟩ new H with
          | none => simp [hw] at h
          | some H1 =>
            simp only [hw, Option.bind_some, Option.some.injEq, Prod.mk.injEq] at h
            obtain ⟨rfl, rfl⟩ := h
            obtain ⟨w', hwr, hst⟩ := run_writeA (P := P) hs hw hnew
            cases hsr with
            | sl hd' o _ _ c hh hl hm hff =>
              refine ⟨_, w', φ, run_append_room (w' := w') h0 hu h1 hx hd hi hnr (by omega) hfr (fun b hb => ?_) (fun hb => by cases hb), hst, hst.vrel (.sl hd' o _ _ c hh hle hm hff)⟩
              cases hb
              rw [add_none, Nat.add_assoc]
              exact hwr
            | slEmp _ _ b hhn => exact absurd (by rw [show n = 0 by omega, Nat.zero_mul]) h0n
            | slFree b => exact absurd (by rw [show n = 0 by omega, Nat.zero_mul]) h0n
  · rename_i hle
    split at h
    · cases h
    · rename_i hb
      simp only [not_or, Decidable.not_not, Bool.not_eq_false] at hb
      obtain ⟨⟨hb1, hb2, hb3⟩, hb4⟩ := hb
      cases a with
      | none =>
        simp only at h
        split at h
        · rename_i hlc
          obtain ⟨rfl, rfl⟩ := hlc
          simp only [Option.some.injEq, Prod.mk.injEq] at h
          obtain ⟨rfl, rfl⟩ := h
          cases hsr with
          | slNil _ _ =>
            have := run_append_new (w := w) (a := none) (len := 0) (cap := 0) (old := []) h0 hu h1 hx hd hi hz hnr (by omega) (by simpa using hb1) (by simpa using hb2) hfr2 rfl (ty := ty)
            have hg := sound_grown (P := P) (base := base) (old := []) (old' := []) (new := new) (new' := new2) (need := 0 + n) (cap := 0) (info := info) (z := z) (e := e) (lo := 0) (par := []) hs .nil hnew2 hzs (by simpa using hb2) (by simpa using hnl) (Nat.zero_le _) (fun p hp => by cases hp) this
            simpa [newA] using hg
        · cases h
      | some a =>
        simp only at h
        split at h
        · rename_i hsp
          split at h
          · rename_i hlc
            obtain ⟨rfl, rfl⟩ := hlc
            simp only [Option.some.injEq, Prod.mk.injEq] at h
            obtain ⟨rfl, rfl⟩ := h
            cases hsr with
            | slFree b =>
              have hfo : (Builtin.firstCells info.size 0 (.slice (some b) 0 0)).run P w.drew = .ok #[] w.drew := by simp [Builtin.firstCells, loadCells, loadCellsFrom]
              have := run_append_new (w := w) (a := some b) (len := 0) (cap := 0) (old := []) h0 hu h1 hx hd hi hz hnr (by omega) (by simpa using hb1) (by simpa using hb2) hfr2 hfo (ty := ty)
              have hg := sound_grown (P := P) (base := base) (old := []) (old' := []) (new := new) (new' := new2) (need := 0 + n) (cap := 0) (info := info) (z := z) (e := e) (lo := 0) (par := []) hs .nil hnew2 hzs (by simpa using hb2) (by simpa using hnl) (Nat.zero_le _) (fun p hp => by cases hp) this
              simpa [newA] using hg
            | slEmp => simp at hsp
            | sl => simp at hsp
          · cases h
        · rename_i hsp
          have hsp : a.spot.isSome = false := by simpa using hsp
          cases hg : hget H a.block with
          | none => simp [hg] at h
          | some b =>
            simp only [hg, Option.bind_some] at h
            split at h
            · rename_i hc
              obtain ⟨hrw, hbase, hbsz, htail⟩ := hc
              simp only [Option.some.injEq, Prod.mk.injEq] at h
              obtain ⟨rfl, rfl⟩ := h
              have hlt := hget_lt hg
              have hrd : readA H a (len * info.size) = some (b.cells.drop a.off) := by
                simp only [readA, hsp, Bool.false_eq_true, if_false, hg]
                rw [if_pos (by omega)]
                congr 1
                exact List.take_of_length_le (by simp; omega)
              obtain ⟨old', hold, hol, _, hro⟩ := run_read (P := P) hdr hrd
              have hk := step_ro (base := base) hs hg
              have hlen : (hset H a.block (some { b with rw := false })).length = H.length := length_hset
              have hbl : (b.cells.drop a.off).length = len * info.size := by simp; omega
              have hpar : ∀ p ∈ a.block :: b.par, p < (hset H a.block (some { b with rw := false })).length ∧ ∀ b', hget (hset H a.block (some { b with rw := false })) p = some b' → b'.rw = false := by
                intro p hp
                have hroh : hget (hset H a.block (some { b with rw := false })) a.block = some { b with rw := false } := hget_set_eq hlt
                rcases List.mem_cons.1 hp with rfl | hp
                · exact ⟨by omega, fun b' hb' => by rw [hroh] at hb'; cases hb'; rfl⟩
                · exact ⟨hk.sim.parlt a.block { b with rw := false } p hroh hp, fun b' hb' => hk.sim.par a.block { b with rw := false } p b' hroh hp hb'⟩
              have realloc : ∀ (a' : Addr) (c : Nat), c < len + n → (Builtin.firstCells info.size len (.slice (some a') len c)).run P w.drew = .ok old'.toArray w.drew →
                  Sound P base φ H w (Builtin.append_ at_ ty #[.slice (some a') len c, x']) (.slice (some (atNew H)) (len + n) (len + n)) (newB (hset H a.block (some { b with rw := false })) ⟨b.cells.drop a.off ++ new, info.size, true, len * info.size, a.block :: b.par⟩) := by
                intro a' c hcl hfo
                have hrun := run_append_new (w := w) (a := some a') (len := len) (cap := c) h0 hu h1 hx hd hi hz hnr hcl hb1 hb2 hfr2 hfo (ty := ty)
                have hgr := sound_grown (P := P) (base := base) (old := b.cells.drop a.off) (old' := old') (new := new) (new' := new2) (need := len + n) (cap := c) (info := info) (z := z) (e := e) (lo := len * info.size) (par := a.block :: b.par) hk.sim
                  (by rw [hlen]; exact hold) (by rw [hlen]; exact hnew2) hzs hb2 (by rw [hnl, Nat.add_mul]; simp; omega) (by rw [List.length_append, hbl]; omega) hpar hrun
                obtain ⟨v', w', φ', r1, r2, r3⟩ := hgr
                refine ⟨v', w', φ', r1, hk.trans r2, ?_⟩
                simpa [atNew, hlen] using r3
              cases hsr with
              | slFree b' => simp [freeA] at hsp
              | slEmp _ _ b' hhn =>
                refine realloc b' 0 (by omega) ?_
                have ho0 : old' = [] := by
                  have := hold.1
                  simp at this
                  exact List.eq_nil_of_length_eq_zero (by simp at htail; omega)
                subst ho0
                simp [Builtin.firstCells, loadCells, loadCellsFrom]
              | sl hd' o _ _ c hh hl hm hff =>
                rcases Nat.lt_or_ge c (len + n) with hcl | hcl
                · exact realloc _ c hcl (by simpa [Builtin.firstCells] using hro)
                · obtain ⟨_, _, _, _, _, _, hszp, _⟩ := hs.cov hd' b hg
                  have hpz : (φ hd').sz = info.size := by rw [hszp, hbsz]
                  rw [hpz] at hff
                  have hlc : len * info.size ≤ c * info.size := Nat.mul_le_mul_right _ (by omega)
                  simp only at htail hg hrw hbase
                  have hmv := step_fork (base := base) (o := o) (fin := (φ hd').base + o + c * info.size) hs hg hrw hbase (by omega) hff (by omega)
                  have hnewg : hget (newB (hset H hd' (some { b with rw := false })) ⟨b.cells.drop o, b.sz, true, b.cells.length - o, hd' :: b.par⟩) H.length = some ⟨b.cells.drop o, b.sz, true, b.cells.length - o, hd' :: b.par⟩ := by
                    have := hget_new_at (H := hset H hd' (some { b with rw := false })) (b := some ⟨b.cells.drop o, b.sz, true, b.cells.length - o, hd' :: b.par⟩)
                    rw [length_hset] at this
                    exact this
                  have hncm : n * info.size + len * info.size ≤ c * info.size := by rw [← Nat.add_mul]; exact Nat.mul_le_mul_right _ (by omega)
                  obtain ⟨w', hrun, hst⟩ := run_growAux (P := P) (base := base) (h := H.length) (a := ⟨(φ hd').B, (φ hd').base + o + len * info.size, none⟩) new new' 0 hmv.sim hnewg rfl (by omega) (by rw [extP_eq])
                    (by rw [extP_eq]; simp; omega) (by rw [extP_eq]; simp; omega) hb4 (hmv.lrel hnew)
                  have hset_new : hset (newB (hset H hd' (some { b with rw := false })) ⟨b.cells.drop o, b.sz, true, b.cells.length - o, hd' :: b.par⟩) H.length (some ⟨b.cells.drop o ++ new, b.sz, true, b.cells.length - o, hd' :: b.par⟩) = newB (hset H hd' (some { b with rw := false })) ⟨b.cells.drop o ++ new, info.size, true, len * info.size, hd' :: b.par⟩ := by
                    rw [hbsz, show b.cells.length - o = len * info.size by omega]
                    have key : ∀ (K : Heap) (x y : Option Blk), K.length = H.length → (K ++ [x]).set H.length y = K ++ [y] := by
                      intro K x y h
                      rw [← h, List.set_append_right _ _ (Nat.le_refl _)]
                      simp
                    exact key _ _ _ (by simp [hset])
                  rw [hset_new] at hst
                  refine ⟨_, w', _, run_append_room (w' := w') h0 hu h1 hx hd hi hnr hcl hfr (fun b0 hb0 => ?_) (fun hb0 => by cases hb0), hmv.trans hst, ?_⟩
                  · cases hb0
                    rw [add_none]
                    exact hrun
                  · have := VRel.sl (n := (newB (hset H hd' (some { b with rw := false })) ⟨b.cells.drop o ++ new, info.size, true, len * info.size, hd' :: b.par⟩).length) (φ := extP φ H.length ⟨(φ hd').B, (φ hd').base + o, (φ hd').base + o + c * info.size, b.sz⟩) H.length 0 (len + n) (len + n) c
                      (by simp [newB, length_hset]) (Nat.le_refl _) hcl (by rw [extP_eq]; simp [hbsz])
                    rw [extP_eq] at this
                    simpa [atNew] using this
            · cases h

end Go.AM

/- An abstract machine over Go's operations: every single operation is sound. -/
namespace Go.AM
open Go

theorem sound_copy {P : Program} {base φ H w} (hs : Sim φ H w) {at_ : Array TypeId} {ty : TypeId} {d s d' s' v : Value} {H' : Heap} (h : copyA P base at_ d s H = some (v, H')) (hdr : VRel H.length φ d d') (hsr : VRel H.length φ s s') :
    Sound P base φ H w (Builtin.copy_ at_ ty #[d', s']) v H' := by
  simp only [copyA, Option.bind_eq_bind] at h
  cases h0 : at_[0]? with
  | none => simp [h0] at h
  | some dt =>
  cases hu : P.underlying dt with
  | none => simp [h0, hu] at h
  | some d0 =>
  cases d0 <;> try (simp [h0, hu] at h; done)
  rename_i e
  simp only [h0, hu, Option.bind_some] at h
  cases hi : P.info? e with
  | none => simp [hi, sizeA] at h
  | some info =>
  have hszA : sizeA P e = some info.size := by simp [sizeA, hi]
  simp only [hszA, Option.bind_some] at h
  cases d <;> try (simp at h; done)
  rename_i a dl dc
  simp only at h
  cases hn : lenA s with
  | none => simp [hn] at h
  | some m =>
  simp only [hn, Option.bind_some] at h
  cases hf : firstA H info.size (Nat.min m dl) s with
  | none => simp [hf] at h
  | some new =>
  simp only [hf, Option.bind_some] at h
  have hnr := run_lenOf (P := P) hn hsr w
  obtain ⟨new', hnew, hfr⟩ := run_first (P := P) hs hf hsr hn (Nat.min_le_left _ _)
  have head : ∀ (a' : Option Addr) (c : Nat) (w' : World), (∀ b, a' = some b → (storeCells b new').run P w = .ok () w') → (a' = none → w' = w) →
      (Builtin.copy_ at_ ty #[.slice a' dl c, s']).run P w = .ok (.int .i64 (Nat.min m dl)) w' := by
    intro a' c w' h1 h2
    cases a' with
    | none =>
      obtain rfl := h2 rfl
      simp [Builtin.copy_, h0, run_underA hu, sizeOf, typeInfo, hi, hnr, hfr, goInt]
    | some b => simp [Builtin.copy_, h0, run_underA hu, sizeOf, typeInfo, hi, hnr, hfr, goInt, h1 b rfl]
  split at h
  · rename_i he
    simp only [Option.some.injEq, Prod.mk.injEq] at h
    obtain ⟨rfl, rfl⟩ := h
    subst he
    have : new' = [] := List.eq_nil_of_length_eq_zero hnew.1.symm
    subst this
    cases hdr <;> exact .pure hs (head _ _ w (fun _ _ => rfl) (fun _ => rfl)) (.int _ _)
  · rename_i he
    cases a with
    | none => simp at h
    | some a =>
      simp only at h
      cases hw : writeA base a new H with
      | none => simp [hw] at h
      | some H1 =>
        simp only [hw, Option.bind_some, Option.some.injEq, Prod.mk.injEq] at h
        obtain ⟨rfl, rfl⟩ := h
        obtain ⟨w', hwr, hst⟩ := run_writeA (P := P) hs hw hnew
        cases hdr with
        | sl hd' o _ _ c hh hl hm hff => exact ⟨_, w', φ, head _ c w' (fun b hb => by cases hb; exact hwr) (fun hb => by cases hb), hst, .int _ _⟩
        | slEmp _ _ b hhn =>
          have hm0 : Nat.min m 0 = 0 := Nat.min_eq_right (Nat.zero_le _)
          rw [hm0] at hf
          exfalso
          apply he
          cases s <;> simp only [firstA] at hf <;> try (cases hf; done)
          · cases hf; simp
          · rename_i q _ _
            cases q with
            | none => simp only [firstA] at hf; cases hf; rfl
            | some q => simp only [firstA] at hf; simpa using hf.symm
        | slFree b => simp [writeA, freeA] at hw

theorem sound_clear {P : Program} {base φ H w} (hs : Sim φ H w) {at_ : Array TypeId} {ty : TypeId} {d d' v : Value} {H' : Heap} (h : clearA P base at_ d H = some (v, H')) (hdr : VRel H.length φ d d') :
    Sound P base φ H w (Builtin.clear_ at_ ty #[d']) v H' := by
  simp only [clearA, Option.bind_eq_bind] at h
  cases h0 : at_[0]? with
  | none => simp [h0] at h
  | some dt =>
  cases hu : P.underlying dt with
  | none => simp [h0, hu] at h
  | some d0 =>
  cases d0 <;> try (simp [h0, hu] at h; done)
  rename_i e
  simp only [h0, hu, Option.bind_some] at h
  cases hz : zeroA P e with
  | none => simp [hz] at h
  | some z =>
  simp only [hz, Option.bind_some] at h
  cases d <;> try (simp at h; done)
  rename_i a n dc
  simp only at h
  split at h
  · cases h
  rename_i hsc
  have hsc : z.cells.all scalarV = true := by simpa using hsc
  split at h
  · rename_i hn
    subst hn
    simp only [Option.some.injEq, Prod.mk.injEq] at h
    obtain ⟨rfl, rfl⟩ := h
    cases hdr <;> exact .pure hs (v' := .tuple #[]) (by simp [Builtin.clear_, h0, run_underA hu]) .undef
  · rename_i hn
    cases a with
    | none => simp at h
    | some a =>
      simp only at h
      cases hw : writeA base a (Builtin.zeroCells z.cells n).toList H with
      | none => simp [hw] at h
      | some H1 =>
        simp only [hw, Option.bind_some, Option.some.injEq, Prod.mk.injEq] at h
        obtain ⟨rfl, rfl⟩ := h
        obtain ⟨w', hwr, hst⟩ := run_writeA (P := P) hs hw (range_rel hsc _)
        cases hdr with
        | sl hd' o _ _ c hh hl hm hff =>
          refine ⟨.tuple #[], w', φ, ?_, hst, .undef⟩
          have hwr' : (storeCells ⟨(φ hd').B, (φ hd').base + o, none⟩ (Builtin.zeroCells z.cells n).toList).run P w = .ok () w' := hwr
          simp [Builtin.clear_, h0, run_underA hu, run_zeroA hz, hwr']
        | slEmp _ _ b hhn => exact absurd rfl hn
        | slFree b => exact absurd rfl hn

theorem execOp_value {P : Program} {base φ H w} {s : Sem Value} {v : Value} {H' : Heap} (h : Sound P base φ H w s v H') {t : Sem Next} (ht : t = (do pure (.value (← s)))) :
    ∃ v' w' φ' r, t.run P w = .ok r w' ∧ (r = .value v' ∨ (r = .skip ∧ v' = undef)) ∧ Step base φ H w φ' H' w' ∧ VRel H'.length φ' v v' := by
  obtain ⟨v', w', φ', h1, h2, h3⟩ := h
  exact ⟨v', w', φ', .value v', by rw [ht]; simp [h1], .inl rfl, h2, h3⟩

theorem args_two {ρ : Env} {a : Act} {n φ sz} (he : ERel n φ sz ρ a) {args : Array Operand} (hc : args.toList.all okOperand = true) : LRel n φ (args.toList.map (evalA ρ)) (args.map a.eval).toList := by
  refine ⟨by simp, fun i v v' hv hv' => ?_⟩
  simp only [Array.toList_map, List.getElem?_map, Option.map_eq_some_iff] at hv hv'
  obtain ⟨x, hx, rfl⟩ := hv
  obtain ⟨x', hx', rfl⟩ := hv'
  rw [hx] at hx'
  cases hx'
  exact he.eval (List.all_eq_true.1 hc x (List.mem_of_getElem? hx))

theorem sound_builtin {P : Program} {base φ H w} (hs : Sim φ H w) {b : Builtin} {at_ : Array TypeId} {ty : TypeId} {cs : Array Bool} {args : List Value} {args' : Array Value} {v : Value} {H' : Heap} (h : builtinA P base b at_ args H = some (v, H')) (hr : LRel H.length φ args args'.toList) :
    ∃ v' w' φ' r, (builtin b at_ ty cs args').run P w = .ok r w' ∧ (r = .value v' ∨ (r = .skip ∧ v' = undef)) ∧ Step base φ H w φ' H' w' ∧ VRel H'.length φ' v v' := by
  have one : ∀ {x}, args = [x] → ∃ x', args' = #[x'] ∧ VRel H.length φ x x' := by
    intro x hx
    subst hx
    obtain ⟨l⟩ := args'
    cases l with
    | nil => simp [LRel] at hr
    | cons y r =>
      cases r with
      | nil => exact ⟨y, rfl, hr.head⟩
      | cons _ _ => simp [LRel] at hr
  have two : ∀ {x y}, args = [x, y] → ∃ x' y', args' = #[x', y'] ∧ VRel H.length φ x x' ∧ VRel H.length φ y y' := by
    intro x y hx
    subst hx
    obtain ⟨l⟩ := args'
    cases l with
    | nil => simp [LRel] at hr
    | cons x' r =>
      cases r with
      | nil => simp [LRel] at hr
      | cons y' r =>
        cases r with
        | nil => exact ⟨x', y', rfl, hr.head, hr.tail.head⟩
        | cons _ _ => simp [LRel] at hr
  unfold builtinA at h
  split at h
  · rename_i x
    obtain ⟨x', rfl, hx⟩ := one rfl
    split at h
    · rename_i s hu
      cases h; cases hx
      cases ht : at_[0]? with
      | none => simp [ht] at hu
      | some t =>
        simp [ht] at hu
        exact execOp_value (.pure hs (v' := .int .i64 s.size) (s := Builtin.len_ at_ ty #[.string s]) (by simp [Builtin.len_, ht, run_underA hu, goInt]) (.int _ _)) rfl
    · rename_i _ e a n c hu
      cases h
      cases ht : at_[0]? with
      | none => simp [ht] at hu
      | some t =>
        simp [ht] at hu
        cases hx <;> exact execOp_value (.pure hs (v' := .int .i64 _) (s := Builtin.len_ at_ ty #[_]) (by simp [Builtin.len_, ht, run_underA hu, goInt]) (.int _ _)) rfl
    · cases h
  · obtain ⟨s', x', rfl, h1, h2⟩ := two rfl
    exact execOp_value (sound_append hs h h1 h2 (ty := ty)) rfl
  · obtain ⟨s', x', rfl, h1, h2⟩ := two rfl
    exact execOp_value (sound_copy hs h h1 h2 (ty := ty)) rfl
  · obtain ⟨d', rfl, h1⟩ := one rfl
    exact execOp_value (sound_clear hs h h1 (ty := ty)) rfl
  · rename_i k a k' b
    obtain ⟨s', x', rfl, h1, h2⟩ := two rfl
    cases h; cases h1; cases h2
    exact execOp_value (.pure hs (v' := .int k (if b > a then b else a)) (s := Builtin.max_ at_ ty #[.int k a, .int k' b]) (by simp [Builtin.max_, Builtin.max2]) (.int _ _)) rfl
  · rename_i k a k' b
    obtain ⟨s', x', rfl, h1, h2⟩ := two rfl
    cases h; cases h1; cases h2
    exact execOp_value (.pure hs (v' := .int k (if b < a then b else a)) (s := Builtin.min_ at_ ty #[.int k a, .int k' b]) (by simp [Builtin.min_, Builtin.min2]) (.int _ _)) rfl
  · cases h

theorem ORel.of {n φ sz ρ a} (he : ERel n φ sz ρ a) {x : Option Operand} (hx : ∀ y, x = some y → okOperand y = true) : ORel n φ (x.map (evalA ρ)) (x.map a.eval) := by
  cases x with
  | none => trivial
  | some y => exact he.eval (hx y rfl)

theorem opA_sound {P : Program} {base φ H w sz ρ a} (hs : Sim φ H w) (he : ERel H.length φ sz ρ a) {o : Oper} {v : Value} {H' : Heap} (hc : o.op.operands.toList.all okOperand = true) (h : opA P base ρ o.op H = some (v, H')) :
    ∃ v' w' φ' r, (execOp a.eval o).run P w = .ok r w' ∧ (r = .value v' ∨ (r = .skip ∧ v' = undef)) ∧ Step base φ H w φ' H' w' ∧ VRel H'.length φ' v v' := by
  unfold opA at h
  unfold execOp
  cases ho : o.op with
  | move x =>
    simp only [ho] at h hc ⊢
    simp [Op.operands] at hc
    cases h
    exact ⟨a.eval x, w, φ, _, rfl, .inl rfl, .refl hs, he.eval hc⟩
  | assign x =>
    simp only [ho] at h hc ⊢
    simp [Op.operands] at hc
    cases h
    exact ⟨a.eval x, w, φ, _, rfl, .inl rfl, .refl hs, he.eval hc⟩
  | pick c x y =>
    simp only [ho] at h hc ⊢
    simp [Op.operands] at hc
    have hcr := he.eval hc.1
    split at h
    · rename_i t ht
      cases h
      rw [ht] at hcr
      generalize a.eval c = c' at hcr
      cases hcr
      refine ⟨if t then a.eval x else a.eval y, w, φ, _, by simp [asBool], .inl rfl, .refl hs, ?_⟩
      cases t
      · exact he.eval hc.2.2
      · exact he.eval hc.2.1
    · cases h
  | alloc t =>
    simp only [ho, Option.bind_eq_bind] at h ⊢
    cases hz : zeroA P t with
    | none => simp [hz] at h
    | some z =>
      simp only [hz, Option.bind_some] at h
      split at h
      · rename_i hsc
        cases h
        exact execOp_value (sound_alloc hs hz hsc) rfl
      · cases h
  | box t x =>
    simp only [ho] at h hc ⊢
    simp [Op.operands] at hc
    cases h
    exact execOp_value (sound_box hs (he.eval hc)) rfl
  | build t ps =>
    simp only [ho] at h hc ⊢
    simp only [Option.map_eq_some_iff, Prod.mk.injEq] at h
    obtain ⟨u, hu, rfl, rfl⟩ := h
    refine execOp_value (sound_build hs ?_ hu) rfl
    have := PRel.of_map he ps.toList (by simp [Op.operands] at hc ⊢; exact hc)
    simpa using this
  | buildSlice t n ps =>
    simp only [ho] at h hc ⊢
    refine execOp_value (sound_buildSlice hs ?_ h) rfl
    have := PRel.of_map he ps.toList (by simp [Op.operands] at hc ⊢; exact hc)
    simpa using this
  | load t x =>
    simp only [ho] at h hc ⊢
    simp [Op.operands] at hc
    simp only [Option.map_eq_some_iff, Prod.mk.injEq] at h
    obtain ⟨u, hu, rfl, rfl⟩ := h
    obtain ⟨v', a', hx, hr, hv⟩ := run_loadVarA (P := P) hs hu (he.eval hc)
    exact execOp_value (.pure hs (s := Instr.loadAt t (a.eval x)) (by rw [hx]; simp [Instr.loadAt, Instr.sureAddr, hr]) hv) rfl
  | store t x y =>
    simp only [ho] at h hc ⊢
    simp [Op.operands] at hc
    simp only [Option.map_eq_some_iff, Prod.mk.injEq] at h
    obtain ⟨H1, hu, rfl, rfl⟩ := h
    obtain ⟨w', a', hx, hr, hst⟩ := run_storeVarA (P := P) hs hu (he.eval hc.1) (he.eval hc.2)
    exact ⟨undef, w', φ, .skip, by rw [hx]; simp [Instr.storeAt, Instr.sureAddr, hr], .inr ⟨rfl, rfl⟩, hst, .undef⟩
  | nilCheck x =>
    simp only [ho] at h hc ⊢
    simp [Op.operands] at hc
    have hx := he.eval hc
    split at h
    · rename_i p hp
      cases h
      rw [hp] at hx
      generalize a.eval x = x' at hx ⊢
      cases hx with
      | ptr hh o hn => exact ⟨_, w, φ, _, rfl, .inl rfl, .refl hs, .ptr hh o hn⟩
    · rename_i f b c hp
      cases h
      rw [hp] at hx
      generalize a.eval x = x' at hx ⊢
      cases hx with
      | func _ xs ys cs ds h1 h2 h3 h4 => exact ⟨_, w, φ, _, rfl, .inl rfl, .refl hs, .func _ _ _ _ _ h1 h2 h3 h4⟩
    · cases h
  | binOp op t x y u =>
    simp only [ho] at h hc ⊢
    simp [Op.operands] at hc
    have hx := he.eval hc.1
    have hy := he.eval hc.2
    split at h
    · rename_i r hr
      cases h
      have hrun := run_binA (P := P) hr (ox := x) (oy := y) w
      rw [hx.scalar_eq hrun.2.1, hy.scalar_eq hrun.2.2.1]
      exact execOp_value (.pure hs hrun.1 (.scalar hrun.2.2.2)) rfl
    · split at h
      · rename_i b hb _
        cases h
        exact execOp_value (.pure hs (run_nilEq hb hx hy (ox := x) (oy := y) w).1 (.bool _)) rfl
      · rename_i b hb _
        cases h
        exact execOp_value (.pure hs (run_nilEq hb hx hy (ox := x) (oy := y) w).2 (.bool _)) rfl
      · simp only [Option.bind_eq_some_iff] at h
        obtain ⟨r, hr, h⟩ := h
        split at h
        · rename_i hcl
          cases h
          unfold eqA at hr
          split at hr
          · split at hr
            · rename_i hcc
              simp only [Bool.and_eq_true] at hcc
              rw [hx.closed_eq hcc.1, hy.closed_eq hcc.2]
              exact execOp_value (.pure hs (pureRun_run _ hr w) (.closed hcl)) rfl
            · cases hr
          · split at hr
            · rename_i hcc
              simp only [Bool.and_eq_true] at hcc
              rw [hx.closed_eq hcc.1, hy.closed_eq hcc.2]
              exact execOp_value (.pure hs (pureRun_run _ hr w) (.closed hcl)) rfl
            · cases hr
          · cases hr
        · cases h
  | unOp op t x =>
    simp only [ho] at h hc ⊢
    simp [Op.operands] at hc
    have hx := he.eval hc
    have fin : ∀ r, (match op, evalA ρ x with | .not, .bool b => some (.bool !b) | .neg, .int k n => some (.int k (k.wrap (0 - n))) | .xor, .int k n => pureRun P (Op.intBits .xor k (if k.signed then -1 else k.max) n) | _, _ => (none : Option Value)) = some r →
        closedV r = true → r = v → H' = H → ∃ v' w' φ' q, Sem.run P (do pure (.value (← Op.unary op (a.eval x))) : Sem Next) w = .ok q w' ∧ (q = .value v' ∨ (q = .skip ∧ v' = undef)) ∧ Step base φ H w φ' H' w' ∧ VRel H'.length φ' v v' := by
      intro r hr hcl hrv hH
      subst hrv hH
      have hrun := run_unA hr w
      rw [hx.scalar_eq hrun.2]
      exact execOp_value (.pure hs hrun.1 (.closed hcl)) rfl
    split at h
    · rename_i b hp; cases h; exact fin _ (by rw [hp]) rfl rfl rfl
    · rename_i k n hp; cases h; exact fin _ (by rw [hp]) rfl rfl rfl
    · rename_i k n hp
      simp only [Option.bind_eq_some_iff] at h
      obtain ⟨r, hr, h⟩ := h
      split at h
      · rename_i hcl
        cases h
        exact fin _ (by rw [hp]; exact hr) hcl rfl rfl
      · cases h
    · cases h
  | convert s d x =>
    simp only [ho] at h hc ⊢
    simp [Op.operands] at hc
    exact execOp_value (sound_conv hs h (he.eval hc)) rfl
  | makeInterface t x =>
    simp only [ho] at h hc ⊢
    simp [Op.operands] at hc
    split at h
    · cases h
    · rename_i d hd hne
      cases h
      refine execOp_value (.pure hs (v' := .iface t (a.eval x)) ?_ (.iface _ _ _ (he.eval hc))) rfl
      simp only [Instr.makeInterface, Sem.run_bind, run_underA hne, Result.andThen_ok]
      try (cases d <;> first | rfl | (exact absurd rfl (hd _)))
    · cases h
  | makeFunc fn f c =>
    simp only [ho] at h hc ⊢
    simp [Op.operands] at hc
    cases h
    refine execOp_value (.pure hs (v' := .func fn (f.map a.eval) (c.map a.eval)) rfl ?_) rfl
    refine .func _ _ _ _ _ (by simp) (fun i h1 h2 => ?_) (by simp) (fun i h1 h2 => ?_)
    · simp at h1 ⊢
      exact he.eval (hc.1 i h1)
    · simp at h1 ⊢
      exact he.eval (hc.2 i h1)
  | makeSlice t l c =>
    simp only [ho] at h hc ⊢
    simp [Op.operands] at hc
    exact execOp_value (sound_makeSlice hs h (he.eval hc.1) (he.eval hc.2)) rfl
  | slice t x lo hi mx =>
    simp only [ho] at h hc ⊢
    simp only [Option.map_eq_some_iff, Prod.mk.injEq] at h
    obtain ⟨u, hu, rfl, rfl⟩ := h
    have hall := List.all_eq_true.1 hc
    refine execOp_value (sound_slice hs hu (he.eval (hall x (by simp [Op.operands]))) (.of he fun y hy => hall y (by subst hy; simp [Op.operands])) (.of he fun y hy => hall y (by subst hy; simp [Op.operands])) (.of he fun y hy => hall y (by subst hy; simp [Op.operands]))) rfl
  | fieldAddr s x f =>
    simp only [ho] at h hc ⊢
    simp [Op.operands] at hc
    simp only [Option.map_eq_some_iff, Prod.mk.injEq] at h
    obtain ⟨u, hu, rfl, rfl⟩ := h
    exact execOp_value (sound_fieldAt hs hu (he.eval hc)) rfl
  | indexAddr t x i =>
    simp only [ho] at h hc ⊢
    simp [Op.operands] at hc
    simp only [Option.map_eq_some_iff, Prod.mk.injEq] at h
    obtain ⟨u, hu, rfl, rfl⟩ := h
    exact execOp_value (sound_indexAt hs hu (he.eval hc.1) (he.eval hc.2)) rfl
  | index t x i =>
    simp only [ho] at h hc ⊢
    simp [Op.operands] at hc
    split at h
    · rename_i s k j hu hx hi
      split at h
      · rename_i h0
        simp only [Option.map_eq_some_iff, Prod.mk.injEq] at h
        obtain ⟨b, hb, rfl, rfl⟩ := h
        have hxr := he.eval hc.1
        have hir := he.eval hc.2
        rw [hx] at hxr
        rw [hi] at hir
        rw [hxr.scalar_eq rfl, hir.scalar_eq rfl]
        exact execOp_value (sound_index hs hu h0 hb) rfl
      · cases h
    · cases h
  | extract x i =>
    simp only [ho] at h hc ⊢
    simp [Op.operands] at hc
    split at h
    · rename_i vs hvs
      simp only [Option.map_eq_some_iff, Prod.mk.injEq] at h
      obtain ⟨u, hu, rfl, rfl⟩ := h
      have hx := he.eval hc
      rw [hvs] at hx
      obtain ⟨vs', v', e1, e2, e3⟩ := hx.tuple_get hu
      refine execOp_value (.pure hs (v' := v') ?_ e3) rfl
      rw [e1]
      simp [Instr.extract, e2]
    · cases h
  | call c =>
    simp only [ho] at h hc ⊢
    obtain ⟨callee, args, at_⟩ := c
    cases callee with
    | builtin b =>
      simp only at h
      have hargs := args_two he (args := args) (by simp [Op.operands, Call.operands] at hc ⊢; exact hc)
      have := fun cs => sound_builtin (ty := o.type) (cs := cs) hs h hargs
      simp only [resolve, invoke, Sem.run_bind, Sem.run_pure, Result.andThen_ok]
      exact this _
    | _ => simp at h
  | _ => simp [ho] at h

end Go.AM

/- An abstract machine over Go's operations: what it does, the model does. -/
namespace Go.AM
open Go

def toExit : AExit → Exit
  | .normal => .normal
  | .exit id => .exit id
  | .ret => .ret

theorem wanted_eq {n φ sz ρ a} (he : ERel n φ sz ρ a) (ops : Array Oper) (o : Oper) : Region.wanted o (yielded ops a.tmps) = Region.wanted o (yieldedA ops ρ) := by
  have : ∀ j, yielded ops a.tmps j = yieldedA ops ρ j := by
    intro j
    unfold yielded yieldedA
    cases hd : (ops[j]?).bind (·.dst) with
    | none => rfl
    | some t =>
      simp only [Option.bind_some]
      have hv := he.vals t
      rcases Nat.lt_or_ge t a.tmps.size with ht | ht
      · have hg : a.tmps[t]? = some (a.tmps.getD t undef) := by simp [ht, Array.getD]
        rw [hg]
        generalize a.tmps.getD t undef = u at hv
        generalize ρ t = r at hv
        cases hv <;> rfl
      · rw [Array.getElem?_eq_none ht]
        have hu : a.tmps.getD t undef = undef := by simp [Array.getD_eq_getD_getElem?, Array.getElem?_eq_none ht]
        rw [hu] at hv
        generalize ρ t = r at hv
        unfold undef at hv
        cases hv
        rfl
  unfold Region.wanted
  cases o.guard with
  | none => rfl
  | some g => simp [this]

def resSem (tmps : Array Value) : ResultVar → Sem Value
  | .tmp t => pure (tmps.getD t undef)
  | .cell c t => do loadVar t (← asAddr (tmps.getD c undef))
theorem results_eq (fn : Func) (tmps : Array Value) : results fn tmps = (do
    let vs ← fn.results.mapM (resSem tmps)
    pure (if h : vs.size = 1 then vs[0] else .tuple vs) : Sem Value) := rfl

theorem run_results {P : Program} {φ H w} (hs : Sim φ H w) {fn : Func} {sz : Nat} {ρ : Env} {a : Act} (he : ERel H.length φ sz ρ a) {v : Value} (h : resultsA P fn ρ H = some v) :
    ∃ v', (results fn a.tmps).run P w = .ok v' w ∧ VRel H.length φ v v' := by
  have one : ∀ {r : ResultVar} {v : Value}, resultA P ρ H r = some v → ∃ v', (resSem a.tmps r).run P w = .ok v' w ∧ VRel H.length φ v v' := by
    intro r v hr
    cases r with
    | tmp t => simp only [resultA, Option.some.injEq] at hr; subst hr; exact ⟨_, rfl, he.vals t⟩
    | cell c t =>
      simp only [resultA] at hr
      obtain ⟨v', a', hx, hrun, hv⟩ := run_loadVarA (P := P) hs hr (he.vals c)
      exact ⟨v', by simp only [resSem, hx, asAddr, Sem.run_bind, Sem.run_pure, Result.andThen_ok]; exact hrun, hv⟩
  have many : ∀ (rs : List ResultVar) {vs : List Value}, rs.mapM (resultA P ρ H) = some vs → ∃ vs', (rs.mapM (resSem a.tmps)).run P w = .ok vs' w ∧ LRel H.length φ vs vs' := by
    intro rs
    induction rs with
    | nil => intro vs hv; simp at hv; subst hv; exact ⟨[], rfl, .nil⟩
    | cons r rs ih =>
      intro vs hv
      simp only [List.mapM_cons, Option.bind_eq_bind, Option.bind_eq_some_iff] at hv
      obtain ⟨u, hu, us, hus, hv⟩ := hv
      simp only [Option.pure_def, Option.some.injEq] at hv
      subst hv
      obtain ⟨u', hr, hur⟩ := one hu
      obtain ⟨us', hrs, husr⟩ := ih hus
      exact ⟨u' :: us', by simp only [List.mapM_cons, Sem.run_bind, hr, Result.andThen_ok, hrs]; rfl, .cons hur husr⟩
  unfold resultsA at h
  rw [results_eq, Array.mapM_eq_mapM_toList]
  split at h
  · rename_i r hr
    obtain ⟨v', hrun, hv⟩ := one h
    refine ⟨v', ?_, hv⟩
    rw [hr]
    simp only [List.mapM_cons, List.mapM_nil, Sem.run_bind, Sem.run_map, hrun, Result.andThen_ok]
    simp
  · rename_i hne
    simp only [Option.map_eq_some_iff] at h
    obtain ⟨vs, hvs, rfl⟩ := h
    obtain ⟨vs', hrun, hv⟩ := many _ hvs
    refine ⟨.tuple vs'.toArray, ?_, .tuple_of hv⟩
    simp only [Sem.run_bind, Sem.run_map, hrun, Result.andThen_ok]
    have hlen : vs'.length ≠ 1 := by
      intro hl
      have hl2 : vs.length = fn.results.toList.length := by
        clear hrun hv hne
        generalize fn.results.toList = rs at hvs
        induction rs generalizing vs with
        | nil => simp at hvs; subst hvs; rfl
        | cons r rs ih =>
          simp only [List.mapM_cons, Option.bind_eq_bind, Option.bind_eq_some_iff] at hvs
          obtain ⟨u, hu, us, hus, hv⟩ := hvs
          simp only [Option.pure_def, Option.some.injEq] at hv
          subst hv
          simp [ih us hus]
      have : fn.results.toList.length = 1 := by rw [← hl2, hv.1, hl]
      obtain ⟨r, hr⟩ := List.length_eq_one_iff.1 this
      exact hne r hr
    simp [hlen]

/-- The rest of a loop: as 'wp', begun at a round. -/
def InLoop (P : Program) (c : Code) (Q : Exit → Act → World → Prop) (a : Act) (w : World) : Prop :=
  ∀ (b : Frame) (k : List Item) (cs : List Frame), ∃ e a' w', Q e a' w' ∧ Arrives P (lone (b.at a (.code c :: .inLoop c :: k)) cs w) b k cs e a' w'

def wpL (P : Program) (c : Code) (Q : Exit → Act → World → Prop) (a : Act) (w : World) : Prop :=
  match c with
  | .loop d => InLoop P d Q a w
  | c => c.wp P Q a w

theorem wpL.wp {P : Program} {c : Code} {Q a w} (h : wpL P c Q a w) : c.wp P Q a w := by
  cases c <;> try exact h
  intro b k cs
  obtain ⟨e, a', w', hq, harr⟩ := h b k cs
  exact ⟨e, a', w', hq, .of_steps (.one step_loop) harr⟩

theorem InLoop.of {P : Program} {c : Code} {Q a w} (h : c.wp P (Exit.then (InLoop P c Q) Q) a w) : InLoop P c Q a w := by
  intro b k cs
  obtain ⟨e, a₁, w₁, hq, harr⟩ := h b (.inLoop c :: k) cs
  cases e with
  | normal =>
    obtain ⟨e₂, a₂, w₂, hq₂, harr₂⟩ := hq b k cs
    exact ⟨e₂, a₂, w₂, hq₂, .of_steps (Steps.trans harr (.one step_inLoop)) harr₂⟩
  | exit id => exact ⟨_, a₁, w₁, hq, .pass (x := .inLoop c) rfl (fun _ _ => .inl (by simp)) harr⟩
  | goto l => exact ⟨_, a₁, w₁, hq, .pass (x := .inLoop c) rfl (fun _ _ => .inl (by simp)) harr⟩
  | ret => exact ⟨_, a₁, w₁, hq, .pass (x := .inLoop c) rfl (fun _ _ => .inl (by simp)) harr⟩
  | panic ch => exact ⟨_, a₁, w₁, hq, .pass (x := .inLoop c) rfl (fun _ _ => .inl (by simp)) harr⟩
  | outgrown => exact ⟨_, a₁, w₁, hq, .pass (x := .inLoop c) rfl (fun _ _ => .inl (by simp)) harr⟩

def Oracle := Nat → FuncId → List Value → Heap → Value → Heap → Prop

/-- The contracts that are taken as they are, are kept. -/
def OrcSound (P : Program) (orc : Oracle) : Prop :=
  ∀ base f args H v H', orc base f args H v H' → ∀ φ w, Sim φ H w → ∀ args', LRel H.length φ args args'.toList →
    Calls P f args' w fun e w' => ∃ v' φ', e = .returned v' ∧ Step base φ H w φ' H' w' ∧ VRel H'.length φ' v v'

def Motive (P : Program) (base : Nat) (j : Job) (H : Heap) (out : Out) (H' : Heap) : Prop :=
  ∀ φ w, Sim φ H w →
    match j, out with
    | .ops sz ops l ρ, .env ρ' => ∀ a, ERel H.length φ sz ρ a → ∀ Q : Exit → Act → World → Prop, (∀ φ' a' w', Step base φ H w φ' H' w' → ERel H'.length φ' sz ρ' a' → Q .normal a' w') → wpOps P ops Q l a w
    | .code sz c ρ, .exit e ρ' => ∀ a, ERel H.length φ sz ρ a → ∀ Q : Exit → Act → World → Prop, (∀ φ' a' w', Step base φ H w φ' H' w' → ERel H'.length φ' sz ρ' a' → Q (toExit e) a' w') → wpL P c Q a w
    | .call f args, .val v => ∀ args', LRel H.length φ args args'.toList → ∀ R : Ending → World → Prop, (∀ v' φ' w', Step base φ H w φ' H' w' → VRel H'.length φ' v v' → R (.returned v') w') → Calls P f args' w R
    | _, _ => True

theorem LRel.of_arrays {n φ} {xs ys : Array Value} (h1 : xs.size = ys.size) (h2 : ∀ i (h : i < xs.size) (h' : i < ys.size), VRel n φ xs[i] ys[i]) : LRel n φ xs.toList ys.toList := by
  refine ⟨by simpa using h1, fun i v v' hv hv' => ?_⟩
  simp only [Array.getElem?_toList] at hv hv'
  obtain ⟨hi, rfl⟩ := Array.getElem?_eq_some_iff.1 hv
  obtain ⟨hi', rfl⟩ := Array.getElem?_eq_some_iff.1 hv'
  exact h2 i hi hi'

theorem init_rel {n φ} {args : List Value} {args' : Array Value} {sz : Nat} (h : LRel n φ args args'.toList) (ha : args.length ≤ sz) :
    ERel n φ sz (initEnv args) { tmps := args' ++ Array.replicate (sz - args'.size) undef, defers := [] } := by
  have hl : args.length = args'.size := by simpa using h.1
  refine ⟨by simp; omega, fun t => ?_, rfl⟩
  rcases Nat.lt_or_ge t args.length with ht | ht
  · have ht' : t < args'.size := by omega
    have e1 : initEnv args t = args[t] := by simp [initEnv, ht]
    have e2 : (args' ++ Array.replicate (sz - args'.size) undef).getD t undef = args'[t] := by
      rw [Array.getD_eq_getD_getElem?, Array.getElem?_append_left ht']; simp [ht']
    rw [e1]
    simp only [e2]
    exact h.2 t _ _ (List.getElem?_eq_getElem ht) (by simp [ht'])
  · have e1 : initEnv args t = undef := by simp [initEnv, ht]
    have e2 : (args' ++ Array.replicate (sz - args'.size) undef).getD t undef = undef := by
      rw [Array.getD_eq_getD_getElem?, Array.getElem?_append_right (by omega)]
      by_cases hh : t - args'.size < sz - args'.size
      · simp [hh]
      · rw [Array.getElem?_eq_none (by simp; omega)]; rfl
    rw [e1]
    simp only [e2]
    exact .undef

theorem sim_nil {φ : Nat → Place} {w : World} : Sim φ [] w :=
  ⟨fun h b hg => by simp [hget] at hg, fun h h' b b' _ hg => by simp [hget] at hg, fun h b p b' hg => by simp [hget] at hg, fun h b p hg => by simp [hget] at hg⟩

/-- What ran beside a memory left it as it was. -/
theorem Step.beside {base base' φ φ1 φ' H w H1 w1} (s : Step base' φ' [] w φ1 H1 w1) (hs : Sim φ H w) : Step base φ H w φ H w1 := by
  have hf : ∀ b, b < w.heap.size → w1.heap[b]? = w.heap[b]? := fun b hb => s.frame b hb fun h blk _ hg => by simp [hget] at hg
  refine ⟨Nat.le_refl _, fun _ _ => rfl, s.size, s.os, s.tape, s.output, fun b hb _ => hf b hb, fun h b' _ hb => ⟨b', hb, id⟩, fun h b hb hg hr => .inr ⟨h, b, hb, hg, hr, rfl⟩, ?_, hs.apart, hs.par, hs.parlt⟩
  intro h b hg
  obtain ⟨c, e, fr, hB, g⟩ := hs.cov h b hg
  exact ⟨c, e, fr, by rw [hf _ (Array.getElem?_eq_some_iff.1 hB).1]; exact hB, g⟩

/-- What came new is forgotten. -/
theorem Step.drop {base φ φ' H w H1 w'} (s : Step base φ H w φ' H1 w') (hs : Sim φ H w) (up : ∀ h b, hget H h = some b → hget H1 h = some b) : Step base φ H w φ' H w' := by
  refine ⟨Nat.le_refl _, s.keep, s.size, s.os, s.tape, s.output, s.frame, fun h b' hh hg => s.old h b' hh (up _ _ hg), fun h' b' hb hg hr => s.later h' b' hb (up _ _ hg) hr, ?_, ?_, ?_, ?_⟩
  · intro h b hg
    obtain ⟨c, e, fr, hB, g1, g2, g3, g4, g5⟩ := s.sim.cov h b (up _ _ hg)
    refine ⟨c, e, fr, hB, g1, g2, g3, fun i v hv => ?_, g5⟩
    obtain ⟨v', hv', hr⟩ := g4 i v hv
    obtain ⟨c0, e0, fr0, hB0, _, _, _, k4, _⟩ := hs.cov h b hg
    obtain ⟨v0, _, hr0⟩ := k4 i v hv
    exact ⟨v', hv', hr0.low.lower hr⟩
  · exact fun h h' b b' hn hg hg' hr => s.sim.apart h h' b b' hn (up _ _ hg) (up _ _ hg') hr
  · exact fun h b p b' hg hp hg' => s.sim.par h b p b' (up _ _ hg) hp (up _ _ hg')
  · exact hs.parlt

theorem LRel.of_closed {n φ} {l : List Value} (h : ∀ v ∈ l, closedV v = true) {l' : List Value} (hl : LRel n φ l l') : l' = l := by
  refine List.ext_getElem? fun i => ?_
  cases hi : l[i]? with
  | none => rw [List.getElem?_eq_none_iff] at hi ⊢; rw [← hl.1]; exact hi
  | some v =>
    have hlt := (List.getElem?_eq_some_iff.1 hi).1
    have hlt' : i < l'.length := hl.1 ▸ hlt
    have : l'[i]? = some l'[i] := by rw [List.getElem?_eq_getElem]
    rw [this]
    exact congrArg some ((hl.2 i v _ hi this).closed_eq (h v (List.mem_of_getElem? hi)))

theorem Big.sound {P : Program} {orc : Oracle} (horc : OrcSound P orc) {base : Nat} {j : Job} {H : Heap} {out : Out} {H' : Heap} (h : Big P orc base j H out H') : Motive P base j H out H' := by
  induction h with
  | opsNil => intro φ w hs a he Q hq; exact hq φ a w (.refl hs) he
  | @opsSkip base sz ops i l ρ H out H' o ho hw hd h ih =>
    intro φ w hs
    cases out with
    | env ρ' =>
      intro a he Q hq
      simp only [wpOps, ho]
      rw [wanted_eq he, hw]
      simp only [Bool.false_eq_true, if_false]
      exact ih φ w hs _ (he.put hd .undef) Q hq
    | _ => trivial
  | @opsOp base sz ops i l ρ H H1 v out H' o ho hw hd hc hop h ih =>
    intro φ w hs
    cases out with
    | env ρ' =>
      intro a he Q hq
      simp only [wpOps, ho]
      rw [wanted_eq he, hw]
      simp only [if_true]
      left
      obtain ⟨v', w1, φ1, r, hrun, hr, hst, hv⟩ := opA_sound hs he hc hop
      have he1 : ERel H1.length φ1 sz (put ρ o.dst v) (a.put o.dst v') := (he.mono hst.len hst.keep).put hd hv
      have hih := ih φ1 w1 hst.sim _ he1 Q (fun φ' a' w' hst' he' => hq φ' a' w' (hst.trans hst') he')
      unfold Oper.wp
      rw [hrun]
      rcases hr with rfl | ⟨rfl, rfl⟩
      · exact hih
      · exact hih
    | _ => trivial
  | @opsCall base sz ops i l ρ H H1 v out H' o f args fn ho hw hd hc ht hf hn hb hcall h ihc ih =>
    intro φ w hs
    cases out with
    | env ρ' =>
      intro a he Q hq
      simp only [wpOps, ho]
      rw [wanted_eq he, hw]
      simp only [if_true]
      left
      unfold targetA at ht
      unfold Oper.wp execOp
      split at ht
      · rename_i fo argo ato hop
        rw [hop] at hc
        simp only [hop]
        have hall := List.all_eq_true.1 hc
        have hfo := he.eval (hall fo (by simp [Op.operands, Call.operands]))
        split at ht
        · rename_i g first captured hg
          simp only [Option.some.injEq, Prod.mk.injEq] at ht
          obtain ⟨rfl, rfl⟩ := ht
          rw [hg] at hfo
          generalize hfe : a.eval fo = f' at hfo
          cases hfo with
          | func _ xs ys cs ds h1 h2 h3 h4 =>
            have hargs := args_two he (args := argo) (List.all_eq_true.2 fun y hy => hall y (by simp [Op.operands, Call.operands]; simp at hy; exact .inr hy))
            have hrun : (do let d ← resolve a.eval { callee := .value fo, args := argo, argTypes := ato } o.type; invoke d.target d.args : Sem Next).run P w = .ok (.enter g (ys ++ argo.map a.eval ++ ds)) w := by
              have hb' : fn.body ≠ none := by intro h; simp [h] at hb
              simp [resolve, hfe, Deferred.ofValue, invoke, callFunc, hf, hn, hb']
            rw [hrun]
            have hl : LRel H.length φ (first.toList ++ argo.toList.map (evalA ρ) ++ captured.toList) (ys ++ argo.map a.eval ++ ds).toList := by
              simp only [Array.toList_append]
              exact ((LRel.of_arrays h1 h2).append hargs).append (LRel.of_arrays h3 h4)
            refine ihc φ w hs _ hl _ (fun v' φ1 w1 hst hv => ?_)
            exact ih φ1 w1 hst.sim _ ((he.mono hst.len hst.keep).put hd hv) Q (fun φ' a' w' hst' he' => hq φ' a' w' (hst.trans hst') he')
        · cases ht
      · cases ht
    | _ => trivial
  | skip => intro φ w hs a he Q hq; exact wp_skip (hq φ a w (.refl hs) he)
  | label => intro φ w hs a he Q hq; exact wp_label (hq φ a w (.refl hs) he)
  | exit => intro φ w hs a he Q hq; exact wp_exit (hq φ a w (.refl hs) he)
  | ret => intro φ w hs a he Q hq; exact wp_ret (hq φ a w (.refl hs) he)
  | @seqN base sz c d ρ ρ1 H H1 out H' h1 h2 ih1 ih2 =>
    intro φ w hs
    cases out with
    | exit e ρ' =>
      intro a he Q hq
      refine wp_seq (wpL.wp (ih1 φ w hs a he _ fun φ1 a1 w1 hst he1 => ?_))
      exact wpL.wp (ih2 φ1 w1 hst.sim a1 he1 Q fun φ' a' w' hst' he' => hq φ' a' w' (hst.trans hst') he')
    | _ => trivial
  | @seqE base sz c d ρ ρ1 H H1 e h1 he1 ih1 =>
    intro φ w hs a he Q hq
    refine wp_seq (wpL.wp (ih1 φ w hs a he _ fun φ1 a1 w1 hst he2 => ?_))
    cases e with
    | normal => exact absurd rfl he1
    | exit id => exact hq φ1 a1 w1 hst he2
    | ret => exact hq φ1 a1 w1 hst he2
  | @cond base sz c x y ρ H out H' t hk hc h ih =>
    intro φ w hs
    cases out with
    | exit e ρ' =>
      intro a he Q hq
      have hcr := he.eval hk
      rw [hc] at hcr
      generalize hce : a.eval c = c' at hcr
      cases hcr
      exact wp_cond hce (wpL.wp (ih φ w hs a he Q hq))
    | _ => trivial
  | blockN h ih =>
    intro φ w hs a he Q hq
    exact wp_block (wpL.wp (ih φ w hs a he _ fun φ1 a1 w1 hst he1 => hq φ1 a1 w1 hst he1))
  | blockX h ih =>
    intro φ w hs a he Q hq
    exact wp_block (wpL.wp (ih φ w hs a he _ fun φ1 a1 w1 hst he1 => by simp only [toExit, Exit.inBlock, if_true]; exact hq φ1 a1 w1 hst he1))
  | @blockE base sz id c ρ ρ1 H H1 e h h1 h2 ih =>
    intro φ w hs a he Q hq
    refine wp_block (wpL.wp (ih φ w hs a he _ fun φ1 a1 w1 hst he1 => ?_))
    cases e with
    | normal => exact absurd rfl h1
    | exit id' =>
      have : id' ≠ id := fun he => h2 (by rw [he])
      simp only [toExit, Exit.inBlock, this, if_false]
      exact hq φ1 a1 w1 hst he1
    | ret => exact hq φ1 a1 w1 hst he1
  | @loopN base sz c ρ ρ1 H H1 out H' h1 h2 ih1 ih2 =>
    intro φ w hs
    cases out with
    | exit e ρ' =>
      intro a he Q hq
      refine InLoop.of (wpL.wp (ih1 φ w hs a he _ fun φ1 a1 w1 hst he1 => ?_))
      exact ih2 φ1 w1 hst.sim a1 he1 Q fun φ' a' w' hst' he' => hq φ' a' w' (hst.trans hst') he'
    | _ => trivial
  | @loopE base sz c ρ ρ1 H H1 e h1 he1 ih1 =>
    intro φ w hs a he Q hq
    refine InLoop.of (wpL.wp (ih1 φ w hs a he _ fun φ1 a1 w1 hst he2 => ?_))
    cases e with
    | normal => exact absurd rfl he1
    | exit id => exact hq φ1 a1 w1 hst he2
    | ret => exact hq φ1 a1 w1 hst he2
  | region h ih =>
    intro φ w hs a he Q hq
    exact wp_region (ih φ w hs a he Q hq)
  | @regionD base sz id ops ρ ρ1 H H1 hm h ih =>
    intro φ w hs a he Q hq
    have hd : Step base φ _ w φ _ { w with drawn := w.drawn + 1 } := .draw hs rfl rfl rfl rfl
    refine wp_region_draw fun t => ?_
    simp only [Region.schedule, hm, Bool.true_or, if_true]
    exact ih t φ { w with drawn := w.drawn + 1 } hd.sim a he Q fun φ' a' w' hst he' => hq φ' a' w' (hd.trans hst) he'
  | @call base f args fn c e ρ H H' v hf hb ha h he hv ih =>
    intro φ w hs args' hargs R hR
    have hie := init_rel hargs ha
    refine calls_of_wp hf hb (wpL.wp (ih φ w hs _ hie _ fun φ1 a1 w1 hst he1 => ?_))
    obtain ⟨v', hrun, hvr⟩ := run_results hst.sim he1 hv
    have : a1.defers = [] ∧ ∃ v, (results fn a1.tmps).run P w1 = .ok v w1 ∧ R (.returned v) w1 := ⟨he1.defers, v', hrun, hR v' φ1 w1 hst hvr⟩
    rcases he with rfl | rfl
    · exact this
    · exact this
  | @orc base f args H v H' h =>
    intro φ w hs args' hargs R hR
    refine (horc base f args H v H' h φ w hs args' hargs).mono fun e w' he => ?_
    obtain ⟨v', φ', rfl, hst, hv⟩ := he
    exact hR v' φ' w' hst hv
  | @pure base base' f args H H1 v h ha hv ih =>
    intro φ w hs args' hargs R hR
    simp only [List.all_eq_true] at ha
    have e := LRel.of_closed ha hargs
    refine ih φ w sim_nil args' ?_ R fun v' φ1 w1 hst hvr => ?_
    · rw [e]
      exact ⟨rfl, fun i v v' hv hv' => by rw [hv] at hv'; cases hv'; exact .closed (ha v (List.mem_of_getElem? hv))⟩
    · have := hvr.closed_eq hv
      subst this
      exact hR v' φ w1 (hst.beside hs) (.closed hv)
  | @drop base f args H H1 v h hk hv ih =>
    intro φ w hs args' hargs R hR
    exact ih φ w hs args' hargs R fun v' φ1 w1 hst hvr => hR v' φ1 w1 (hst.drop hs hk) (hv.lower hvr)

end Go.AM
