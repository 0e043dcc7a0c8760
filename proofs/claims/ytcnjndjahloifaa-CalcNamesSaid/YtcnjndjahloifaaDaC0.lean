/- The library's Sort, Compact, Grow at strings, and calls that are run once: what they return. -/
import Derived.Test.YtcnjndjahloifaaDaFacts
import Derived.Test.YtcnjndjahloifaaDaShelf
import Derived.Test.YtcnjndjahloifaaDmWx
import Derived.Lib.RowBridge
set_option linter.unusedSimpArgs false
set_option linter.unusedVariables false
namespace Go.Proofs.DaT
open Go Go.AM Go.DM Go.RowKit
set_option maxRecDepth 100000

/-- Calls that are run once. -/
def theRuns : List RunT := [(4, [], .bool true)]
theorem theRuns_ok : ∀ x ∈ theRuns, RunOk Try.prog x := by
  intro x hx
  simp only [theRuns, List.mem_cons, List.not_mem_nil, or_false] at hx
  subst hx
  exact runOk_of dmx 100000 (by kernel_rfl) rfl rfl rfl

/-- Strings, in cells of the model. -/
def strV (l : List (List UInt8)) : List Value := l.map encStr
theorem strV_s {l : List (List UInt8)} : ∀ u ∈ strV l, scalarV u = true ∧ toS (ofS u) = some u := by
  intro u hu
  obtain ⟨x, _, rfl⟩ := List.mem_map.1 hu
  exact ⟨rfl, rfl⟩
theorem strV_length {l : List (List UInt8)} : (strV l).length = l.length := by simp [strV]
theorem holds_strV {w : World} {blk off : Nat} {ss : List (List UInt8)} (h : ∀ j v, (strV ss)[j]? = some v → w.cell? ⟨blk, off + j, none⟩ = some v ∧ w.frozen? ⟨blk, off + j, none⟩ = false) : Sort.Holds encStr w blk off ss.toArray := by
  intro j hj
  have hj' : j < ss.length := by simpa using hj
  have := h j (encStr ss[j]) (by simp [strV, hj'])
  simpa [hj'] using this

def libR : RewT := fun f old new ret =>
  (f = 18 ∧ ∃ ss : List (List UInt8), ss.length < 1000000 ∧ old = strV ss ∧ new = strV (ss.mergeSort fun x y => decide (x ≤ y)) ∧ ret = false) ∨
  (f = 20 ∧ ∃ ss : List (List UInt8), ss.length < 1000000 ∧ old = strV ss ∧ new = strV (Lib.compact ss) ∧ ret = true)
def libG : GrowT := fun f sz n => f = 28 ∧ sz = 1 ∧ 0 < n ∧ n < 1000000
def libC : ClosedT := fun f vs v =>
  (f = 18 ∧ vs = [.slice none 0 0] ∧ v = .tuple #[]) ∨
  (f = 20 ∧ vs = [.slice none 0 0] ∧ v = .slice none 0 0) ∨
  (f = 28 ∧ vs = [.slice none 0 0, .int .i64 ((0 : Nat) : Int)] ∧ v = .slice none 0 0)

theorem libR_ok {A : Beside} : RewOk Try.prog A libR := by
  refine ⟨?_, ?_, ?_, ?_⟩
  · rintro f old new ret (⟨rfl, ss, _, rfl, rfl, rfl⟩ | ⟨rfl, ss, _, rfl, rfl, rfl⟩) <;> exact strV_s
  · rintro f old new ret (⟨rfl, ss, _, rfl, rfl, rfl⟩ | ⟨rfl, ss, _, rfl, rfl, rfl⟩)
    · exact ⟨by simp [strV_length], fun u hu => (strV_s u hu).1⟩
    · exact ⟨by simp only [strV_length]; exact Lib.compact_length_le ss, fun u hu => (strV_s u hu).1⟩
  · rintro f new ret (⟨rfl, ss, _, h, rfl, rfl⟩ | ⟨rfl, ss, _, h, rfl, rfl⟩) w a cap
    · exact Try.slices_Sort_string_none a cap w
    · exact Try.slices_Compact_string_empty a cap w
  · rintro f old new ret (⟨rfl, ss, hl, rfl, rfl, rfl⟩ | ⟨rfl, ss, hl, rfl, rfl, rfl⟩) hne w blk off cap hb hcap hc
    · rw [strV_length]
      refine (Try.slices_Sort_string blk off cap ss w (holds_strV hc) hb (by omega)).mono fun e w' ⟨he, n, os, hw⟩ => ⟨he, ?_⟩
      rw [hw]
      refine rowOut_of hb (by simp) fun i v hi => ?_
      have h1 := (List.getElem?_eq_some_iff.1 hi).1
      have h2 : i < ss.length := by simpa [strV_length] using h1
      refine ⟨h2, ?_⟩
      have h3 : i < (ss.mergeSort fun x y => decide (x ≤ y)).length := by simpa using h2
      simp only [strV, List.getElem?_map, List.getElem?_eq_getElem h3, Option.map_some, Option.some.injEq] at hi
      rw [← hi]
      simp [h2]
    · rw [strV_length]
      refine (Try.slices_Compact_string blk off cap ss w (holds_strV hc) (by omega) (by rw [strV_length] at hcap; exact hcap)).mono fun e w' ⟨he, n, hw⟩ => ⟨by rw [he, strV_length]; rfl, ?_⟩
      have hle := Lib.compact_length_le ss
      have hg : ∀ W : World, Sort.grow W #[] = W := fun W => by cases W; simp [Sort.grow]
      rw [hw]
      have key : RowOut w (Sort.grow (Sort.putRow encStr (Sort.ahead w n) blk off (Lib.compact ss ++ List.replicate (ss.length - (Lib.compact ss).length) []).toArray) #[]) blk off ss.length (strV (Lib.compact ss)) := by
        refine rowOut_of hb (by simp; omega) fun i v hi => ?_
        have h1 := (List.getElem?_eq_some_iff.1 hi).1
        have h2 : i < (Lib.compact ss).length := by simpa [strV_length] using h1
        refine ⟨by omega, ?_⟩
        simp only [strV, List.getElem?_map, List.getElem?_eq_getElem h2, Option.map_some, Option.some.injEq] at hi
        rw [← hi]
        have h3 : i < (Lib.compact ss ++ List.replicate (ss.length - (Lib.compact ss).length) []).length := by simp; omega
        rw [getElem!_pos _ i (by simpa using h3)]
        simp [h2]
      rw [hg] at key
      exact key

theorem libG_ok : GrowOk Try.prog libG := by
  rintro f sz n ⟨rfl, rfl, h1, h2⟩ w
  have q1 : (Try.prog.info? 9).map (fun i => (i.size, i.bytes)) = some (1, 16) := by kernel_rfl
  have q2 : (Try.prog.info? 9).bind (·.zero) = some (.string ⟨#[]⟩) := by kernel_rfl
  obtain ⟨i0, hi0⟩ : ∃ i0, Try.prog.info? 9 = some i0 := by
    cases h : Try.prog.info? 9 with
    | none => rw [h] at q1; cases q1
    | some i => exact ⟨i, rfl⟩
  rw [hi0] at q1 q2
  simp only [Option.map_some, Option.some.injEq, Prod.mk.injEq] at q1
  obtain ⟨hs0, hb0⟩ := q1
  have hz0 : i0.zero = some (.string ⟨#[]⟩) := q2
  have hg := Go.grownCap_ge w (0 + n) 0 9
  refine (Any8.slices_Grow_grow Try.growLays i0 (.string ⟨#[]⟩) hi0 hz0 (by omega) none 0 0 n [] w (Nat.le_refl _) (by omega) (by rw [hb0]; omega) (by omega) (by simp) (fun _ => rfl) (fun a h => by cases h)).mono fun e w' ⟨he, hw⟩ => ?_
  refine ⟨_, _, _, he, hw, ?_⟩
  have hz : ∀ k, (Builtin.zeroCells (Value.string ⟨#[]⟩).cells k).size = k := fun k => by simp [Builtin.zeroCells, Value.cells]
  simp only [Array.size_append, hz]
  have : (grownCap w (0 + n) 0 (Try.growLays_ren.t 25)) = grownCap w (0 + n) 0 9 := rfl
  simp
  omega

theorem libC_ok {A : Beside} : ClosedOk Try.prog A libC := by
  refine ⟨?_, ?_, ?_⟩
  · rintro f vs v (⟨rfl, rfl, rfl⟩ | ⟨rfl, rfl, rfl⟩ | ⟨rfl, rfl, rfl⟩) u hu
    · simp only [List.mem_singleton] at hu; subst hu; exact ⟨rfl, rfl⟩
    · simp only [List.mem_singleton] at hu; subst hu; exact ⟨rfl, rfl⟩
    · simp only [List.mem_cons, List.not_mem_nil, or_false] at hu
      rcases hu with rfl | rfl <;> exact ⟨rfl, rfl⟩
  · rintro f vs v (⟨rfl, rfl, rfl⟩ | ⟨rfl, rfl, rfl⟩ | ⟨rfl, rfl, rfl⟩) <;> simp [closedV, scalarV]
  · rintro f vs v (⟨rfl, rfl, rfl⟩ | ⟨rfl, rfl, rfl⟩ | ⟨rfl, rfl, rfl⟩) φ H w _
    · exact (Try.slices_Sort_string_none none 0 w).mono fun e w' ⟨he, hw⟩ => ⟨he, hw ▸ .refl _ _⟩
    · exact (Try.slices_Compact_string_empty none 0 w).mono fun e w' ⟨he, hw⟩ => ⟨he, hw ▸ .refl _ _⟩
    · exact (Any8.slices_Grow_room Try.growLays none 0 0 0 w (Nat.le_refl _) (by omega) (by omega) (by omega)).mono fun e w' ⟨he, hw⟩ => ⟨he, hw ▸ .refl _ _⟩

def O : DOracle := orOrcD (pureO (orOrc (runOrc theRuns) (closedOrc libC))) (orOrcD (rewOrc libR) (growOrc libG))
theorem O_sound {A : Beside} : DOrcSound Try.prog A O :=
  orOrcD_sound (pureO_sound (orOrc_sound (runOrc_sound theRuns_ok) (closedOrc_sound libC_ok))) (orOrcD_sound (rewOrc_sound libR_ok) (growOrc_sound libG_ok))

theorem theKnown (S : Mem) : CallD Try.prog O 4 [] S fun d S' => S' = S ∧ d = .bool true :=
  ⟨_, _, .orc (.inl ⟨rfl, .inl ⟨[], .bool true, by simp [theRuns], rfl, rfl⟩⟩), rfl, rfl⟩
theorem sortNil (S : Mem) : CallD Try.prog O 18 [.nils] S fun d S' => S' = S ∧ d = .tup [] :=
  CallD.closedOrc (c := libC) (us := [.slice none 0 0]) (v := .tuple #[]) (fun f args d h S => .inl ⟨rfl, .inr h⟩) (.inl ⟨rfl, rfl, rfl⟩)
theorem compactNil (S : Mem) : CallD Try.prog O 20 [.nils] S fun d S' => S' = S ∧ d = .nils :=
  CallD.closedOrc (c := libC) (us := [.slice none 0 0]) (v := .slice none 0 0) (fun f args d h S => .inl ⟨rfl, .inr h⟩) (.inr (.inl ⟨rfl, rfl, rfl⟩))
theorem growNil (S : Mem) : CallD Try.prog O 28 [.nils, .int .i64 ((0 : Nat) : Int)] S fun d S' => S' = S ∧ d = .nils :=
  CallD.closedOrc (c := libC) (us := [.slice none 0 0, .int .i64 ((0 : Nat) : Int)]) (v := .slice none 0 0) (fun f args d h S => .inl ⟨rfl, .inr h⟩) (.inr (.inr ⟨rfl, rfl, rfl⟩))
theorem growNew {n : Nat} (h1 : 0 < n) (h2 : n < 1000000) (S : Mem) : CallD Try.prog O 28 [.nils, .int .i64 (n : Int)] S fun d S' => S' = S ++ [.obj []] ∧ d = .msl S.length 1 0 :=
  CallD.growOrc (c := libG) (fun f args S d S' h => .inr (.inr h)) ⟨rfl, rfl, h1, h2⟩
/-- Strings in cells of the abstract machine. -/
def strC (l : List ByteArray) : List D := l.map .str
def bs (l : List ByteArray) : List (List UInt8) := l.map (·.data.toList)
def sb (l : List (List UInt8)) : List ByteArray := l.map fun x => ⟨x.toArray⟩
theorem sb_bs : ∀ {l : List ByteArray}, sb (bs l) = l
  | [] => rfl
  | x :: l => by
    show (⟨x.data.toList.toArray⟩ : ByteArray) :: sb (bs l) = x :: l
    rw [sb_bs]
theorem strV_sb {l : List (List UInt8)} : (strV l).map ofS = strC (sb l) := by
  simp only [strV, strC, sb, List.map_map]
  rfl
def sortL (l : List ByteArray) : List ByteArray := sb ((bs l).mergeSort fun x y => decide (x ≤ y))
def compactL (l : List ByteArray) : List ByteArray := sb (Lib.compact (bs l))
theorem sortM {l : List ByteArray} (hl : l.length < 1000000) {o : Nat} {S : Mem} (ho : objAt S o = some (strC l)) : CallD Try.prog O 18 [.msl o 1 l.length] S fun d S' => S' = S.set o (.obj (strC (sortL l))) ∧ d = .tup [] := by
  have := CallD.rewOrc (P := Try.prog) (orc := O) (c := libR) (f := 18) (o := o) (old := strV (bs l)) (ret := false) (S := S) (fun f args S d S' h => .inr (.inl h)) (.inl ⟨rfl, bs l, by simpa [bs] using hl, rfl, rfl, rfl⟩) (by rw [strV_sb, sb_bs]; exact ho)
  rw [strV_sb, strV_length, show (bs l).length = l.length by simp [bs]] at this
  exact this
theorem compactM {l : List ByteArray} (hl : l.length < 1000000) {o : Nat} {S : Mem} (ho : objAt S o = some (strC l)) : CallD Try.prog O 20 [.msl o 1 l.length] S fun d S' => S' = S.set o (.obj (strC (compactL l))) ∧ d = .msl o 1 (compactL l).length := by
  have := CallD.rewOrc (P := Try.prog) (orc := O) (c := libR) (f := 20) (o := o) (old := strV (bs l)) (ret := true) (S := S) (fun f args S d S' h => .inr (.inl h)) (.inr ⟨rfl, bs l, by simpa [bs] using hl, rfl, rfl, rfl⟩) (by rw [strV_sb, sb_bs]; exact ho)
  rw [strV_sb, strV_length, show (bs l).length = l.length by simp [bs]] at this
  rw [show (compactL l).length = (strV (Lib.compact (bs l))).length by simp [compactL, sb, strV_length]]
  exact this
end Go.Proofs.DaT
