/- An abstract machine over Go's operations: single operations are sound, second part. -/
import Derived.Test.YtipeffaojbhbmaaDoorAmE
import Derived.Lib.ConvBytes
import Derived.Laws.AppendOwn
set_option linter.unusedSimpArgs false
set_option linter.unusedVariables false
namespace Go.AM
open Go

theorem pureRun_run {α : Type} {P : Program} : ∀ (s : Sem α) {a : α} (_ : pureRun P s = some a) (w : World), s.run P w = .ok a w
  | .pure b, a, h, w => by simp [pureRun] at h; subst h; rfl
  | .program k, a, h, w => by simp only [pureRun] at h; simp only [Sem.run]; exact pureRun_run (k P) h w
  | .mark m k, a, h, w => by simp only [pureRun] at h; simp only [Sem.run]; exact pureRun_run k h w
  | .load _ _ _, _, h, _ | .store _ _ _ _, _, h, _ | .new _ _, _, h, _ | .shape _ _, _, h, _ | .freeze _ _ _, _, h, _ | .frozen _ _, _, h, _ | .getObj _ _, _, h, _ | .setObj _ _ _, _, h, _
  | .choose _ _, _, h, _ | .sys _ _, _, h, _ | .halt _, _, h, _ => by simp [pureRun] at h

theorem run_eqGuard_int {P : Program} {op : BinOp} {t : TypeId} {x y : Operand} {k : IntKind} {a : Int} {b : Value} (w : World) : (eqGuard op t x y (.int k a) b).run P w = .ok () w := by
  cases op <;> simp [eqGuard]
theorem run_eqGuard_str {P : Program} {op : BinOp} {t : TypeId} {x y : Operand} {a : ByteArray} {b : Value} (w : World) : (eqGuard op t x y (.string a) b).run P w = .ok () w := by
  cases op <;> simp [eqGuard]
theorem run_eqGuard_bool {P : Program} {op : BinOp} {t : TypeId} {x y : Operand} {a : Bool} {b : Value} (w : World) : (eqGuard op t x y (.bool a) b).run P w = .ok () w := by
  cases op <;> simp [eqGuard]

theorem run_intBin {P : Program} {op : BinOp} {k : IntKind} {a b : Int} {v : Value} (h : intBin op k a b = some v) {t : TypeId} (w : World) : (binOp op t (.int k a) (.int k b)).run P w = .ok v w ∧ scalarV v = true := by
  cases op <;> simp only [intBin] at h
  case quo | rem =>
    split at h
    · cases h
    · rename_i hb; cases h; simp [binOp, Op.intDiv, hb, scalarV]
  all_goals first
    | (cases h; done)
    | (cases h; simp [binOp, Op.intArith, Op.intCmp, scalarV])

theorem run_equalIn_bool {P : Program} {t : TypeId} {a b : Bool} (d : Nat) (h : P.underlying t = some .bool) (w : World) : (Op.equalIn (d + 1) t (.bool a) (.bool b)).run P w = .ok (a == b) w := by
  simp only [Op.equalIn, Sem.run_bind, run_underA h, Result.andThen_ok]
  rfl
theorem run_equal_bool {P : Program} {t : TypeId} {a b : Bool} (h : P.underlying t = some .bool) (w : World) : (Op.equal t (.bool a) (.bool b)).run P w = .ok (a == b) w :=
  run_equalIn_bool 9999 h w

theorem run_binA {P : Program} {op : BinOp} {t : TypeId} {x y v : Value} (h : binA P op t x y = some v) {ox oy : Operand} (w : World) :
    (do eqGuard op t ox oy x y; binOp op t x y : Sem Value).run P w = .ok v w ∧ scalarV x = true ∧ scalarV y = true ∧ scalarV v = true := by
  unfold binA at h
  split at h
  · rename_i k a k' b
    have hg : (eqGuard op t ox oy (.int k a) (.int k' b)).run P w = .ok () w := run_eqGuard_int w
    split at h
    · split at h
      · cases h
      · rename_i hb; cases h
        simp [Sem.run_bind, hg, binOp, Op.shift, hb, scalarV]
    · split at h
      · cases h
      · rename_i hb; cases h
        simp [Sem.run_bind, hg, binOp, Op.shift, hb, scalarV]
    · split at h
      · rename_i hk; subst hk
        have hr := pureRun_run _ h w
        have : scalarV v = true := by simp [Op.intBits, pureRun] at h; cases h; rfl
        refine ⟨?_, rfl, rfl, this⟩
        simp only [Sem.run_bind, hg, Result.andThen_ok]
        simpa [binOp] using hr
      · cases h
    · split at h
      · rename_i hk; subst hk
        have hr := pureRun_run _ h w
        have : scalarV v = true := by simp [Op.intBits, pureRun] at h; cases h; rfl
        refine ⟨?_, rfl, rfl, this⟩
        simp only [Sem.run_bind, hg, Result.andThen_ok]
        simpa [binOp] using hr
      · cases h
    · split at h
      · rename_i hk; subst hk
        have hr := pureRun_run _ h w
        have : scalarV v = true := by simp [Op.intBits, pureRun] at h; cases h; rfl
        refine ⟨?_, rfl, rfl, this⟩
        simp only [Sem.run_bind, hg, Result.andThen_ok]
        simpa [binOp] using hr
      · cases h
    · split at h
      · rename_i hk; subst hk
        have hr := pureRun_run _ h w
        have : scalarV v = true := by simp [Op.intBits, pureRun] at h; cases h; rfl
        refine ⟨?_, rfl, rfl, this⟩
        simp only [Sem.run_bind, hg, Result.andThen_ok]
        simpa [binOp] using hr
      · cases h
    · split at h
      · rename_i hk; subst hk
        have hr := run_intBin (P := P) (t := t) h w
        refine ⟨?_, rfl, rfl, hr.2⟩
        simp only [Sem.run_bind, hg, Result.andThen_ok]
        exact hr.1
      · cases h
  · rename_i a b
    have hg : (eqGuard op t ox oy (.string a) (.string b)).run P w = .ok () w := run_eqGuard_str w
    simp only [Sem.run_bind, hg, Result.andThen_ok]
    cases op <;> simp only [strBin] at h
    case add =>
      split at h
      · cases h
      · rename_i hb; cases h; simp only [binOp, Op.stringOp, hb, if_false]; simp [scalarV]
    all_goals first
      | (cases h; done)
      | (cases h; simp [binOp, Op.stringOp, scalarV])
  · rename_i a b
    have hg : (eqGuard op t ox oy (.bool a) (.bool b)).run P w = .ok () w := run_eqGuard_bool w
    simp only [Sem.run_bind, hg, Result.andThen_ok]
    cases op <;> simp only at h
    case eql | neq =>
      split at h
      · rename_i hu
        cases h
        cases hu' : P.underlying t with
        | none => simp [hu'] at hu
        | some d =>
          cases d <;> simp [hu'] at hu
          have he := run_equal_bool (a := a) (b := b) hu' w
          refine ⟨?_, rfl, rfl, rfl⟩
          first
            | (rw [show binOp .eql t (.bool a) (.bool b) = (do pure (.bool (← Op.equal t (.bool a) (.bool b)))) from rfl]; simp [he])
            | (rw [show binOp .neq t (.bool a) (.bool b) = (do pure (.bool (!(← Op.equal t (.bool a) (.bool b))))) from rfl]; simp [he])
      · cases h
    all_goals cases h
  · cases h

theorem run_equalIn_nil {P : Program} {t : TypeId} {n φ x y x' y'} {b : Bool} (d : Nat) (h : nilEq P t x y = some b) (hx : VRel n φ x x') (hy : VRel n φ y y') (w : World) :
    (Op.equalIn (d + 1) t x' y').run P w = .ok b w := by
  unfold nilEq at h
  split at h <;> first | (cases h; done) | skip
  all_goals
    rename_i hu
    cases h
    simp only [Op.equalIn, Sem.run_bind, run_underA hu, Result.andThen_ok]
    cases hx <;> cases hy <;> rfl

theorem guard_nil {P : Program} {t : TypeId} {n φ x y x' y'} {b : Bool} (h : nilEq P t x y = some b) (hx : VRel n φ x x') (hy : VRel n φ y y') (op : BinOp) (ox oy : Operand) (w : World) :
    (eqGuard op t ox oy x' y').run P w = .ok () w := by
  unfold nilEq at h
  split at h <;> first | (cases h; done) | skip
  all_goals cases hx <;> cases hy <;> cases op <;> simp [eqGuard]

theorem run_nilEq {P : Program} {n φ} {t : TypeId} {x y x' y' : Value} {b : Bool} (h : nilEq P t x y = some b) (hx : VRel n φ x x') (hy : VRel n φ y y') {ox oy : Operand} (w : World) :
    (do eqGuard .eql t ox oy x' y'; binOp .eql t x' y' : Sem Value).run P w = .ok (.bool b) w ∧ (do eqGuard .neq t ox oy x' y'; binOp .neq t x' y' : Sem Value).run P w = .ok (.bool !b) w := by
  have he : (Op.equal t x' y').run P w = .ok b w := run_equalIn_nil 9999 h hx hy w
  simp only [Sem.run_bind, guard_nil h hx hy, Result.andThen_ok]
  have h1 : binOp .eql t x' y' = (do pure (.bool (← Op.equal t x' y'))) ∧ binOp .neq t x' y' = (do pure (.bool (!(← Op.equal t x' y')))) := by
    unfold nilEq at h
    split at h <;> first | (cases h; done) | skip
    all_goals cases hx <;> cases hy <;> exact ⟨rfl, rfl⟩
  rw [h1.1, h1.2]
  simp [he]

theorem run_unA {P : Program} {op : UnOp} {x : Value} {v : Value} (h : (match op, x with
    | .not, .bool b => some (.bool !b)
    | .neg, .int k n => some (.int k (k.wrap (0 - n)))
    | .xor, .int k n => pureRun P (Op.intBits .xor k (if k.signed then -1 else k.max) n)
    | _, _ => (none : Option Value)) = some v) (w : World) : (Op.unary op x).run P w = .ok v w ∧ scalarV x = true := by
  split at h
  · cases h; simp [Op.unary, scalarV]
  · cases h; simp [Op.unary, Op.intArith, scalarV]
  · exact ⟨pureRun_run _ h w, rfl⟩
  · cases h

theorem sound_conv {P : Program} {base φ H w} (hs : Sim φ H w) {s d : TypeId} {x x' v : Value} {H' : Heap} (h : convA P s d x H = some (v, H')) (hx : VRel H.length φ x x') :
    Sound P base φ H w (convert s d x') v H' := by
  simp only [convA, Option.bind_eq_bind] at h
  cases hu : P.underlying s with
  | none => simp [hu] at h
  | some us =>
    cases hd : P.underlying d with
    | none => simp [hu, hd] at h
    | some ud =>
      simp only [hu, hd, Option.bind_some] at h
      split at h
      · cases h; cases hx
        exact .pure hs (by simp [convert, run_underA hu, run_underA hd, Conv.intToInt]) (.int _ _)
      · cases h; cases hx
        exact .pure hs (by simp [convert, run_underA hu, run_underA hd]) (.string _)
      · rename_i e a
        cases he : P.underlying e with
        | none => simp [he] at h
        | some ue =>
          simp only [he, Option.bind_some] at h
          split at h
          · cases h; cases hx
            have hheap : (Lib.bytesWorld w e a).heap = w.heap.push (.cells (Lib.bytesCells w e a) e ((Lib.bytesCells w e a).size, (Lib.bytesCells w e a).size + 1)) := by
              apply Array.ext_getElem?
              intro i
              rcases Nat.lt_trichotomy i w.heap.size with hi | hi | hi
              · rw [Lib.bytesWorld_at_old w e a i hi, Array.getElem?_push_lt hi]; simp [hi]
              · subst hi; rw [Lib.bytesWorld_at_new]; simp
              · rw [Array.getElem?_eq_none (by rw [Lib.bytesWorld_size]; omega), Array.getElem?_eq_none (by simp; omega)]
            have hge := grownCap_ge w a.size 0 e
            have hsz : (Lib.bytesCells w e a).size = grownCap w a.size 0 e := by simp [Lib.bytesCells]; omega
            have st := step_new (base := base) (sz := 1) (cells := a.data.toList.map fun b => Value.int .u8 b.toNat) (fin := (Lib.bytesCells w e a).size) hs hheap rfl rfl rfl (by simp [hsz]; omega) (Nat.le_refl _) (fun i h1 h2 => by simp at h2; omega) (fun i v hv => by
              refine ⟨v, ?_, ?_⟩
              · have hi := (List.getElem?_eq_some_iff.1 hv).1
                simp at hi
                simp only [Lib.bytesCells]
                rw [Array.getElem?_append_left (by simpa using hi)]
                simpa using hv
              · simp at hv
                obtain ⟨b, _, rfl⟩ := hv
                exact .int _ _)
            refine ⟨_, _, _, Lib.run_convert_string_bytes w s d e a hu hd he, st, ?_⟩
            have := VRel.sl (n := (newA H (a.data.toList.map fun b => Value.int .u8 b.toNat) 1).length) (φ := extP φ H.length ⟨w.heap.size, 0, (Lib.bytesCells w e a).size, 1⟩) H.length 0 a.size a.size (grownCap w a.size 0 e) (by simp [newA, newB]) (Nat.le_refl _) hge (by rw [extP_eq]; simp [hsz])
            rw [extP_eq] at this
            simpa [atNew] using this
          · cases h
      · rename_i e b n c
        cases he : P.underlying e with
        | none => simp [he] at h
        | some ue =>
          simp only [he, Option.bind_some] at h
          split at h
          · split at h
            · cases h
              cases hx
              exact .pure hs (by simp [convert, run_underA hu, run_underA hd, run_underA he, Conv.bytesToString]) (.string _)
            · rename_i a
              split at h
              · rename_i hn0
                subst hn0
                cases h
                have key : ∀ B c', (convert s d (.slice (some B) 0 c')).run P w = .ok (.string .empty) w := by
                  intro B c'
                  simp only [convert, Sem.run_bind, run_underA hu, run_underA hd, run_underA he, Result.andThen_ok]
                  simp [Conv.bytesToString, loadCells, loadCellsFrom]
                cases hx <;> exact .pure hs (key _ _) (.string _)
              rename_i hn0
              cases hr : readA H a n with
              | none => simp [hr] at h
              | some cs =>
                simp only [hr, Option.bind_some] at h
                cases hb : u8s cs with
                | none => simp [hb] at h
                | some xs =>
                  simp only [hb, Option.bind_some, Option.some.injEq, Prod.mk.injEq] at h
                  obtain ⟨rfl, rfl⟩ := h
                  obtain ⟨cs', hrel, hlen, hcell, hrun⟩ := run_read (P := P) hs hr
                  have hxs : ∀ (cs : List Value) {xs : List Int}, u8s cs = some xs → cs = xs.map (Value.int .u8) := by
                    intro cs
                    induction cs with
                    | nil => intro xs h; simp [u8s] at h; subst h; rfl
                    | cons c cs ih =>
                      intro xs h
                      unfold u8s at h
                      split at h
                      · rename_i he; cases he
                      · rename_i k r he
                        cases he
                        cases hr : u8s cs with
                        | none => simp [hr] at h
                        | some ys =>
                          simp only [hr, Option.map_some, Option.some.injEq] at h
                          subst h
                          rw [ih hr]
                          rfl
                      · cases h
                  have hcs := hxs cs hb
                  have hcs' : cs' = xs.map (Value.int .u8) := by
                    apply List.ext_getElem?
                    intro i
                    by_cases hi : i < cs.length
                    · have hi' : i < cs'.length := by rw [← hrel.1]; exact hi
                      have h1 := hrel.2 i cs[i] cs'[i] (List.getElem?_eq_getElem hi) (List.getElem?_eq_getElem hi')
                      have hcl : scalarV cs[i] = true := by simp [hcs, scalarV]
                      rw [List.getElem?_eq_getElem hi', h1.scalar_eq hcl, ← List.getElem?_eq_getElem hi, hcs]
                    · rw [List.getElem?_eq_none (by rw [← hrel.1]; omega), List.getElem?_eq_none (by rw [← hcs]; omega)]
                  have hxl : xs.length = n := by rw [← hlen, hcs]; simp
                  have key : ∀ B o c', (∀ (j : Nat) (v : Value), cs'[j]? = some v → w.cell? ⟨B, o + j, none⟩ = some v) → (convert s d (.slice (some ⟨B, o, none⟩) n c')).run P w = .ok (.string (strOfNums xs)) w := by
                    intro B o c' hc
                    refine run_convert_bytes_arg w s e hu he B o n c' xs hxl (fun i hi => ?_) d hd
                    refine hc i _ ?_
                    rw [hcs']
                    simp [hxl, hi, List.getD_eq_getElem?_getD]
                  cases hx with
                  | sl h o l m c' hn hl hm hf =>
                    refine .pure hs (key _ _ c' fun j v hv => ?_) (.string _)
                    exact hcell j v hv
                  | slEmp _ _ b _ => exact absurd rfl hn0
                  | slFree b => exact absurd rfl hn0
          · cases h
      · cases h

end Go.AM
