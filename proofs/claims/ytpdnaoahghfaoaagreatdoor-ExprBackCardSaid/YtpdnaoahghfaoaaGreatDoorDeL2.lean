/- What Go's library does, told to the machine. -/
import Derived.Test.YtpdnaoahghfaoaaGreatDoorDeL1
import Derived.Test.YtpdnaoahghfaoaaGreatDoorDeShelf
import Derived.Test.YtpdnaoahghfaoaaGreatDoorDmWx
import Derived.Lib.RowBridge
import Derived.Lib.SmallJoins
set_option linter.unusedSimpArgs false
set_option linter.unusedVariables false
namespace Go.Proofs.DeT
open Go Go.AM Go.DM Go.RowKit
set_option maxRecDepth 100000

def twoL : List ByteArray := [⟨#[33, 61]⟩, ⟨#[60, 61]⟩, ⟨#[62, 61]⟩]
def itoaB (n : Int) : ByteArray := ⟨(Lib.itoa n).toArray⟩
def libC : ClosedT := fun f vs v =>
  (f = 189 ∧ ∃ b : UInt8, vs = [.string (⟨#[40, 41, 44, 61, 60, 62, 43, 45, 42, 47, 37]⟩ : ByteArray), .string ⟨#[b]⟩] ∧ v = .bool (decide (b ∈ sgnL))) ∨
  (f = 186 ∧ ∃ (s : ByteArray) (n : Int), s.size < 1000000 ∧ Lib.parseIntB 64 s.data.toList = .ok n ∧ vs = [.string s, .int .i64 10, .int .i64 64] ∧ v = .tuple #[.int .i64 n, .nilIface]) ∨
  (f = 99 ∧ ∃ n : Int, -9223372036854775808 ≤ n ∧ n ≤ 9223372036854775807 ∧ vs = [.int .i64 n, .int .i64 10] ∧ v = .string (itoaB n)) ∨
  (f = 105 ∧ vs = [.slice none 0 0] ∧ v = .tuple #[]) ∨
  (f = 107 ∧ vs = [.slice none 0 0] ∧ v = .slice none 0 0) ∨
  (f = 139 ∧ vs = [.slice none 0 0, .int .i64 ((0 : Nat) : Int)] ∧ v = .slice none 0 0)
def libN : NewT := fun f vs cs => f = 188 ∧ vs = [.string (⟨#[33, 61, 32, 60, 61, 32, 62, 61]⟩ : ByteArray)] ∧ cs = twoL.map .string
def libE : ErrT := fun f vs u t => f = 186 ∧ ∃ s : ByteArray, s.size < 1000000 ∧ Lib.parseIntB 64 s.data.toList = .range ∧ vs = [.string s, .int .i64 10, .int .i64 64] ∧ u = .int .i64 (Lib.intSat 64 s.data.toList) ∧ t = 258
def libS : POracle := fun f args d => f = 187 ∧ ∃ own xs x, args = [.sl own 1 xs.length (xs.map .str), .str x] ∧ xs.length < 1000000 ∧ d = .bool (Lib.containsS xs x)

/-- What a law's first memory has of the library's variables. -/
structure Start (w0 : World) : Prop where
  sp : Lib.TabIs Tryz.prog w0 "strings.asciiSpace" .u8 Lib.asciiSpaceTab
  pw : Lib.TabIs Tryz.prog w0 "internal/strconv.uint64pow10" .u64 Lib.pow10Tab
  er : ∃ te pe, w0.var? Tryz.prog "strconv.ErrRange" = some #[.iface te pe]

theorem index_mem : ∀ (l : List UInt8) (b : UInt8), decide (0 ≤ Lib.indexByte l b) = decide (b ∈ l)
  | [], b => by simp [Lib.indexByte]
  | x :: l, b => by
    have ih := index_mem l b
    rw [Bool.eq_iff_iff, decide_eq_true_iff, decide_eq_true_iff] at ih ⊢
    rw [Lib.indexByte, List.mem_cons]
    by_cases h : x = b
    · subst h; simp
    · have hb : (x == b) = false := by simp [h]
      have h' : ¬ b = x := fun e => h e.symm
      rw [hb]
      simp only [Bool.false_eq_true, if_false, h', false_or]
      rw [← ih]
      by_cases h1 : Lib.indexByte l b = -1
      · simp [h1]
      · have : (Lib.indexByte l b == -1) = false := by simp [h1]
        rw [this]
        simp only [Bool.false_eq_true, if_false]
        have hge : -1 ≤ Lib.indexByte l b := index_ge l b
        omega
where
  index_ge : ∀ (l : List UInt8) (b : UInt8), -1 ≤ Lib.indexByte l b
    | [], b => by simp [Lib.indexByte]
    | x :: l, b => by
      have := index_ge l b
      rw [Lib.indexByte]
      split
      · decide
      · split <;> omega

/-- A call on a slice of texts, in the model. -/
theorem onStrs {f : FuncId} {w : World} {r : Rl} {φ : Nat → AM.Place} (hs : AM.Sim φ r.H w) {own : Option Nat} {xs : List ByteArray} {x : ByteArray} {d : Value}
    (hd : AM.scalarV d = true) (h0 : xs = [] → ∀ a c, Calls Tryz.prog f #[.slice a 0 c, .string x] w fun e w' => e = .returned d ∧ RowKit.Below w.heap.size w w')
    (h1 : ∀ bk o c, xs.length ≤ c → bk < w.heap.size → (∀ j y, xs[j]? = some y → w.cell? ⟨bk, o + j, none⟩ = some (.string y)) → Calls Tryz.prog f #[.slice (some ⟨bk, o, none⟩) xs.length c, .string x] w fun e w' => e = .returned d ∧ RowKit.Below w.heap.size w w')
    {vs : List Value} {args' : Array Value} (dl : DL r [.sl own 1 xs.length (xs.map .str), .str x] vs) (hargs : AM.LRel r.H.length φ vs args'.toList) :
    Calls Tryz.prog f args' w fun e w' => ∃ r' u v' φ', e = .returned v' ∧ r.Le r' ∧ (∀ S, SRel r S → SRel r' S) ∧ AM.Step 0 φ r.H w φ' r'.H w' ∧ DRel r' (ofS d) u ∧ AM.VRel r'.H.length φ' u v' := by
  obtain ⟨v1, v2, rfl⟩ : ∃ v1 v2, vs = [v1, v2] := by
    have := dl.1
    match vs, this with | [v1, v2], _ => exact ⟨v1, v2, rfl⟩
  obtain ⟨u1, u2, hu⟩ : ∃ u1 u2, args'.toList = [u1, u2] := by
    have := hargs.1
    match h : args'.toList, this with | [v1, v2], _ => exact ⟨v1, v2, rfl⟩
  rw [hu] at hargs
  have e2 : v2 = .string x := by have := dl.tail.head; cases this; rfl
  subst e2
  have e3 : u2 = .string x := hargs.tail.head.scalar_eq rfl
  subst e3
  have ea : args' = #[u1, .string x] := by rw [← Array.toList_inj, hu]
  subst ea
  have hx : xs.map D.str = (xs.map Value.string).map ofS := by simp [ofS, Function.comp_def]
  have hd0 := dl.head
  rw [hx] at hd0
  have ret : Calls Tryz.prog f #[u1, .string x] w fun e w' => e = .returned d ∧ RowKit.Below w.heap.size w w' := by
    rcases slice_of hs (n := xs.length) (cs := xs.map .string) (by simp; intros; rfl) (by simp; intros; rfl) hd0 hargs.head with ⟨h0', hn, a, c, rfl⟩ | ⟨hn, bk, o, c, rfl, hc, hbk, hcell⟩
    · have : xs = [] := List.eq_nil_of_length_eq_zero h0'
      exact h0 this a c
    · rw [List.length_map] at hc ⊢
      exact h1 bk o c hc hbk fun j y hj => hcell j _ (by simp [hj])
  exact ret.mono fun e w' ⟨he, hw⟩ => ⟨r, d, d, φ, he, .refl r, fun S h => h, step_below hs hw, .ofS _, .scalar hd⟩

/-- Strings, in cells of the model. -/
def strV (l : List (List UInt8)) : List Value := l.map encStr
theorem strV_s {l : List (List UInt8)} : ∀ u ∈ strV l, scalarV u = true ∧ toS (ofS u) = some u := by
  intro u hu
  obtain ⟨x, _, rfl⟩ := List.mem_map.1 hu
  exact ⟨rfl, rfl⟩
theorem strV_length {l : List (List UInt8)} : (strV l).length = l.length := by simp [strV]
theorem holds_strV {w : World} {blk off : Nat} {ss : List (List UInt8)} (h : ∀ j v, (strV ss)[j]? = some v → w.cell? ⟨blk, off + j, none⟩ = some v ∧ w.frozen? ⟨blk, off + j, none⟩ = false) : Sort.Holds encStr w blk off ss.toArray := by
  intro j hj
  have hj' : j < ss.length := by simpa using hj
  have := h j (encStr ss[j]) (by simp [strV, hj'])
  simpa [hj'] using this

def libR : RewT := fun f old new ret =>
  (f = 105 ∧ ∃ ss : List (List UInt8), ss.length < 1000000 ∧ old = strV ss ∧ new = strV (ss.mergeSort fun x y => decide (x ≤ y)) ∧ ret = false) ∨
  (f = 107 ∧ ∃ ss : List (List UInt8), ss.length < 1000000 ∧ old = strV ss ∧ new = strV (Lib.compact ss) ∧ ret = true)
def libG : GrowT := fun f sz n => f = 139 ∧ sz = 1 ∧ 0 < n ∧ n < 1000000
theorem libR_ok {A : Beside} : RewOk Tryz.prog A libR := by
  refine ⟨?_, ?_, ?_, ?_⟩
  · rintro f old new ret (⟨rfl, ss, _, rfl, rfl, rfl⟩ | ⟨rfl, ss, _, rfl, rfl, rfl⟩) <;> exact strV_s
  · rintro f old new ret (⟨rfl, ss, _, rfl, rfl, rfl⟩ | ⟨rfl, ss, _, rfl, rfl, rfl⟩)
    · exact ⟨by simp [strV_length], fun u hu => (strV_s u hu).1⟩
    · exact ⟨by simp only [strV_length]; exact Lib.compact_length_le ss, fun u hu => (strV_s u hu).1⟩
  · rintro f new ret (⟨rfl, ss, _, h, rfl, rfl⟩ | ⟨rfl, ss, _, h, rfl, rfl⟩) w a cap
    · exact Tryz.slices_Sort_string_none a cap w
    · exact Tryz.slices_Compact_string_empty a cap w
  · rintro f old new ret (⟨rfl, ss, hl, rfl, rfl, rfl⟩ | ⟨rfl, ss, hl, rfl, rfl, rfl⟩) hne w blk off cap hb hcap hc
    · rw [strV_length]
      refine (Tryz.slices_Sort_string blk off cap ss w (holds_strV hc) hb (by omega)).mono fun e w' ⟨he, n, os, hw⟩ => ⟨he, ?_⟩
      rw [hw]
      refine rowOut_of hb (by simp) fun i v hi => ?_
      have h1 := (List.getElem?_eq_some_iff.1 hi).1
      have h2 : i < ss.length := by simpa [strV_length] using h1
      refine ⟨h2, ?_⟩
      have h3 : i < (ss.mergeSort fun x y => decide (x ≤ y)).length := by simpa using h2
      simp only [strV, List.getElem?_map, List.getElem?_eq_getElem h3, Option.map_some, Option.some.injEq] at hi
      rw [← hi]
      simp [h2]
    · rw [strV_length]
      refine (Tryz.slices_Compact_string blk off cap ss w (holds_strV hc) (by omega) (by rw [strV_length] at hcap; exact hcap)).mono fun e w' ⟨he, n, hw⟩ => ⟨by rw [he, strV_length]; rfl, ?_⟩
      have hle := Lib.compact_length_le ss
      have hg : ∀ W : World, Sort.grow W #[] = W := fun W => by cases W; simp [Sort.grow]
      rw [hw]
      have key : RowOut w (Sort.grow (Sort.putRow encStr (Sort.ahead w n) blk off (Lib.compact ss ++ List.replicate (ss.length - (Lib.compact ss).length) []).toArray) #[]) blk off ss.length (strV (Lib.compact ss)) := by
        refine rowOut_of hb (by simp; omega) fun i v hi => ?_
        have h1 := (List.getElem?_eq_some_iff.1 hi).1
        have h2 : i < (Lib.compact ss).length := by simpa [strV_length] using h1
        refine ⟨by omega, ?_⟩
        simp only [strV, List.getElem?_map, List.getElem?_eq_getElem h2, Option.map_some, Option.some.injEq] at hi
        rw [← hi]
        have h3 : i < (Lib.compact ss ++ List.replicate (ss.length - (Lib.compact ss).length) []).length := by simp; omega
        rw [getElem!_pos _ i (by simpa using h3)]
        simp [h2]
      rw [hg] at key
      exact key

theorem libG_ok : GrowOk Tryz.prog libG := by
  rintro f sz n ⟨rfl, rfl, h1, h2⟩ w
  have q1 : (Tryz.prog.info? 9).map (fun i => (i.size, i.bytes)) = some (1, 16) := by kernel_rfl
  have q2 : (Tryz.prog.info? 9).bind (·.zero) = some (.string ⟨#[]⟩) := by kernel_rfl
  obtain ⟨i0, hi0⟩ : ∃ i0, Tryz.prog.info? 9 = some i0 := by
    cases h : Tryz.prog.info? 9 with
    | none => rw [h] at q1; cases q1
    | some i => exact ⟨i, rfl⟩
  rw [hi0] at q1 q2
  simp only [Option.map_some, Option.some.injEq, Prod.mk.injEq] at q1
  obtain ⟨hs0, hb0⟩ := q1
  have hz0 : i0.zero = some (.string ⟨#[]⟩) := q2
  have hg := Go.grownCap_ge w (0 + n) 0 9
  refine (Any8.slices_Grow_grow Tryz.growLays i0 (.string ⟨#[]⟩) hi0 hz0 (by omega) none 0 0 n [] w (Nat.le_refl _) (by omega) (by rw [hb0]; omega) (by omega) (by simp) (fun _ => rfl) (fun a h => by cases h)).mono fun e w' ⟨he, hw⟩ => ?_
  have hmx := grownCap_le_maxLen w (0 + n) 0 9 (by unfold maxLen; omega)
  unfold maxLen at hmx
  refine ⟨_, _, _, he, hw, ?_, hmx⟩
  have hz : ∀ k, (Builtin.zeroCells (Value.string ⟨#[]⟩).cells k).size = k := fun k => by simp [Builtin.zeroCells, Value.cells]
  simp only [Array.size_append, hz]
  have : (grownCap w (0 + n) 0 (Tryz.growLays_ren.t 25)) = grownCap w (0 + n) 0 9 := rfl
  simp
  omega

theorem below_grow {w : World} {k : Nat} {os : Array Obj} : Below w.heap.size w (Sort.grow (w.drewN k) os) := by
  refine ⟨rfl, rfl, rfl, by simp [Sort.grow], ?_⟩
  · intro j hj
    simp only [Sort.grow]
    rw [Array.getElem?_append_left (by simpa using hj)]
    simp

theorem libC_ok {w0 : World} (hs : Start w0) : ClosedOk Tryz.prog (keepsB w0) libC := by
  have tabp : ∀ {w : World}, RowKit.Below w0.heap.size w0 w → Lib.TabIs Tryz.prog w "internal/strconv.uint64pow10" .u64 Lib.pow10Tab := fun hb =>
    Joins.tab_stays (g := (Tryz.prog.globalNamed "internal/strconv.uint64pow10").getD 0) (by kernel_rfl) hs.pw hb (Nat.le_refl _)
  refine ⟨?_, ?_, ?_⟩
  · rintro f vs v (⟨rfl, b, rfl, rfl⟩ | ⟨rfl, s, n, _, _, rfl, rfl⟩ | ⟨rfl, n, _, _, rfl, rfl⟩ | ⟨rfl, rfl, rfl⟩ | ⟨rfl, rfl, rfl⟩ | ⟨rfl, rfl, rfl⟩) u hu <;> simp only [List.mem_cons, List.not_mem_nil, or_false] at hu
    · rcases hu with rfl | rfl <;> exact ⟨rfl, rfl⟩
    · rcases hu with rfl | rfl | rfl <;> exact ⟨rfl, rfl⟩
    · rcases hu with rfl | rfl <;> exact ⟨rfl, rfl⟩
    · subst hu; exact ⟨rfl, rfl⟩
    · subst hu; exact ⟨rfl, rfl⟩
    · rcases hu with rfl | rfl <;> exact ⟨rfl, rfl⟩
  · rintro f vs v (⟨rfl, b, rfl, rfl⟩ | ⟨rfl, s, n, _, _, rfl, rfl⟩ | ⟨rfl, n, _, _, rfl, rfl⟩ | ⟨rfl, rfl, rfl⟩ | ⟨rfl, rfl, rfl⟩ | ⟨rfl, rfl, rfl⟩) <;> simp [closedV, scalarV]
  · rintro f vs v (⟨rfl, b, rfl, rfl⟩ | ⟨rfl, s, n, h1, h2, rfl, rfl⟩ | ⟨rfl, n, h1, h2, rfl, rfl⟩ | ⟨rfl, rfl, rfl⟩ | ⟨rfl, rfl, rfl⟩ | ⟨rfl, rfl, rfl⟩) φ H w ⟨hb, _⟩
    · exact (Tryz.strings_Contains_one (⟨#[40, 41, 44, 61, 60, 62, 43, 45, 42, 47, 37]⟩ : ByteArray) b w).mono fun e w' ⟨he, hw⟩ => ⟨by rw [he, index_mem]; rfl, hw ▸ .refl _ _⟩
    · refine (Tryz.strconv_ParseInt_10_at64_ok s (by omega) n h2 w).mono fun e w' ⟨he, hw⟩ => ⟨he, ?_⟩
      rcases hw with rfl | ⟨t, rfl⟩
      · exact .refl _ _
      · exact Lib.bytesWorld_below _ _ _
    · refine (Tryz.strconv_FormatInt_10 n h1 h2 w (tabp hb)).mono fun e w' ⟨he, k, os, hw⟩ => ⟨he, ?_⟩
      rw [hw]
      exact below_grow
    · exact (Tryz.slices_Sort_string_none none 0 w).mono fun e w' ⟨he, hw⟩ => ⟨he, hw ▸ .refl _ _⟩
    · exact (Tryz.slices_Compact_string_empty none 0 w).mono fun e w' ⟨he, hw⟩ => ⟨he, hw ▸ .refl _ _⟩
    · exact (Any8.slices_Grow_room Tryz.growLays none 0 0 0 w (Nat.le_refl _) (by omega) (by omega) (by omega)).mono fun e w' ⟨he, hw⟩ => ⟨he, hw ▸ .refl _ _⟩

/-- What is known of the library. -/
def O : DOracle := orOrcD (pureO (orOrc (orOrc (orOrc (closedOrc libC) (newOrc libN)) (errOrc libE)) libS)) (orOrcD (rewOrc libR) (growOrc libG))
theorem O_sound {w0 : World} (hs : Start w0) : DOrcSound Tryz.prog (keepsB w0) O := by
  have tab : ∀ {w : World}, RowKit.Below w0.heap.size w0 w → Lib.TabIs Tryz.prog w "strings.asciiSpace" .u8 Lib.asciiSpaceTab := fun hb =>
    Joins.tab_stays (g := (Tryz.prog.globalNamed "strings.asciiSpace").getD 0) (by kernel_rfl) hs.sp hb (Nat.le_refl _)
  obtain ⟨te, pe, her⟩ := hs.er
  refine orOrcD_sound (pureO_sound (orOrc_sound (orOrc_sound (orOrc_sound (closedOrc_sound (libC_ok hs)) (newOrc_sound ⟨?_, ?_, ?_⟩)) (errOrc_sound ⟨?_, ?_, ?_⟩)) ?_)) (orOrcD_sound (rewOrc_sound libR_ok) (growOrc_sound libG_ok))
  · rintro f vs v ⟨rfl, rfl, rfl⟩ u hu
    simp at hu
    subst hu
    exact ⟨rfl, rfl⟩
  · rintro f vs v ⟨rfl, rfl, rfl⟩ u hu
    simp [twoL] at hu
    rcases hu with rfl | rfl | rfl <;> rfl
  · rintro f vs v ⟨rfl, rfl, rfl⟩ φ H w ⟨hb, _⟩
    refine ⟨9, (Tryz.strings_Fields_laid (⟨#[33, 61, 32, 60, 61, 32, 62, 61]⟩ : ByteArray) w (by decide) (fun j b h => (show ∀ x ∈ [33, 61, 32, 60, 61, 32, 62, (61 : UInt8)], x.toNat < 128 by decide) b (List.mem_of_getElem? h)) (tab hb)).mono fun e w' ⟨he, hw⟩ => ⟨?_, ?_⟩⟩
    · rw [he]; rfl
    · rw [hw]; rfl
  · rintro f vs u t ⟨rfl, s, _, _, rfl, rfl, rfl⟩ x hx
    simp at hx
    rcases hx with rfl | rfl | rfl <;> exact ⟨rfl, rfl⟩
  · rintro f vs u t ⟨rfl, s, _, _, rfl, rfl, rfl⟩
    rfl
  · rintro f vs u t ⟨rfl, s, h1, h2, rfl, rfl, rfl⟩ φ H w ⟨hb, _⟩
    have hv : w.var? Tryz.prog "strconv.ErrRange" = some #[.iface te pe] := by
      exact Joins.var_stays (g := (Tryz.prog.globalNamed "strconv.ErrRange").getD 0) (by kernel_rfl) her hb (Nat.le_refl _)
    exact (Tryz.strconv_ParseInt_10_at64_range_var s (by omega) h2 te pe w hv).mono fun e w' ⟨N, he, _, _, hw⟩ => ⟨⟨N, he⟩, hw⟩
  · rintro f args d ⟨rfl, own, xs, x, rfl, h1, rfl⟩ r φ w hs vs args' dl hargs
    refine onStrs (d := .bool (Lib.containsS xs x)) hs.1 rfl (fun e a c => ?_) (fun bk o c hc hbk hcell => ?_) dl hargs
    · subst e
      exact (Tryz.slices_Contains_string_empty a c x w).mono fun e w' ⟨he, hw⟩ => ⟨he, hw ▸ .refl _ _⟩
    · refine (Tryz.slices_Contains_string bk o xs.length c xs x w (Nat.le_refl _) (by omega) fun j hj => ?_).mono fun e w' ⟨he, hw⟩ => ⟨by rw [he, List.take_length], hw ▸ .refl _ _⟩
      exact hcell j _ (by simp [hj])

theorem contains1 (b : UInt8) (S : Mem) : CallD Tryz.prog O 189 [.str (⟨#[40, 41, 44, 61, 60, 62, 43, 45, 42, 47, 37]⟩ : ByteArray), .str ⟨#[b]⟩] S fun d S' => S' = S ∧ d = .bool (decide (b ∈ sgnL)) :=
  CallD.closedOrc (c := libC) (us := [.string (⟨#[40, 41, 44, 61, 60, 62, 43, 45, 42, 47, 37]⟩ : ByteArray), .string ⟨#[b]⟩]) (fun f args d h S => .inl ⟨rfl, .inl (.inl (.inl h))⟩) (.inl ⟨rfl, b, rfl, rfl⟩)
theorem parseOk (s : ByteArray) (n : Int) (h1 : s.size < 1000000) (h2 : Lib.parseIntB 64 s.data.toList = .ok n) (S : Mem) : CallD Tryz.prog O 186 [.str s, .int .i64 10, .int .i64 64] S fun d S' => S' = S ∧ d = .tup [.int .i64 n, .nili] :=
  CallD.closedOrc (c := libC) (us := [.string s, .int .i64 10, .int .i64 64]) (fun f args d h S => .inl ⟨rfl, .inl (.inl (.inl h))⟩) (.inr (.inl ⟨rfl, s, n, h1, h2, rfl, rfl⟩))
theorem formatInt (n : Int) (h1 : -9223372036854775808 ≤ n) (h2 : n ≤ 9223372036854775807) (S : Mem) : CallD Tryz.prog O 99 [.int .i64 n, .int .i64 10] S fun d S' => S' = S ∧ d = .str (itoaB n) :=
  CallD.closedOrc (c := libC) (us := [.int .i64 n, .int .i64 10]) (fun f args d h S => .inl ⟨rfl, .inl (.inl (.inl h))⟩) (.inr (.inr (.inl ⟨rfl, n, h1, h2, rfl, rfl⟩)))
theorem parseBad (s : ByteArray) (h1 : s.size < 1000000) (h2 : Lib.parseIntB 64 s.data.toList = .range) (S : Mem) : CallD Tryz.prog O 186 [.str s, .int .i64 10, .int .i64 64] S fun d S' => S' = S ∧ d = .tup [.int .i64 (Lib.intSat 64 s.data.toList), .iface 258 .bot] :=
  CallD.errOrc (c := libE) (us := [.string s, .int .i64 10, .int .i64 64]) (u := .int .i64 (Lib.intSat 64 s.data.toList)) (fun f args d h S => .inl ⟨rfl, .inl (.inr h)⟩) ⟨rfl, s, h1, h2, rfl, rfl, rfl⟩
theorem fieldsTwo (S : Mem) : CallD Tryz.prog O 188 [.str (⟨#[33, 61, 32, 60, 61, 32, 62, 61]⟩ : ByteArray)] S fun d S' => S' = S ∧ d = .sl none 1 3 (twoL.map .str) :=
  CallD.newOrc (P := Tryz.prog) (orc := O) (S := S) (c := libN) (us := [.string (⟨#[33, 61, 32, 60, 61, 32, 62, 61]⟩ : ByteArray)]) (fun f args d h S => .inl ⟨rfl, .inl (.inl (.inr h))⟩) ⟨rfl, rfl, rfl⟩
theorem containsL (own : Option Nat) (xs : List ByteArray) (x : ByteArray) (h : xs.length < 1000000) (S : Mem) : CallD Tryz.prog O 187 [.sl own 1 xs.length (xs.map .str), .str x] S fun d S' => S' = S ∧ d = .bool (Lib.containsS xs x) :=
  ⟨_, _, .orc (.inl ⟨rfl, .inr ⟨rfl, own, xs, x, rfl, h, rfl⟩⟩), rfl, rfl⟩
theorem containsTwo (own : Option Nat) (x : ByteArray) (S : Mem) : CallD Tryz.prog O 187 [.sl own 1 3 (twoL.map .str), .str x] S fun d S' => S' = S ∧ d = .bool (Lib.containsS twoL x) :=
  containsL own twoL x (by decide) S
theorem sortNil (S : Mem) : CallD Tryz.prog O 105 [.nils] S fun d S' => S' = S ∧ d = .tup [] :=
  CallD.closedOrc (c := libC) (us := [.slice none 0 0]) (v := .tuple #[]) (fun f args d h S => .inl ⟨rfl, .inl (.inl (.inl h))⟩) (.inr (.inr (.inr (.inl ⟨rfl, rfl, rfl⟩))))
theorem compactNil (S : Mem) : CallD Tryz.prog O 107 [.nils] S fun d S' => S' = S ∧ d = .nils :=
  CallD.closedOrc (c := libC) (us := [.slice none 0 0]) (v := .slice none 0 0) (fun f args d h S => .inl ⟨rfl, .inl (.inl (.inl h))⟩) (.inr (.inr (.inr (.inr (.inl ⟨rfl, rfl, rfl⟩)))))
theorem growNil (S : Mem) : CallD Tryz.prog O 139 [.nils, .int .i64 ((0 : Nat) : Int)] S fun d S' => S' = S ∧ d = .nils :=
  CallD.closedOrc (c := libC) (us := [.slice none 0 0, .int .i64 ((0 : Nat) : Int)]) (v := .slice none 0 0) (fun f args d h S => .inl ⟨rfl, .inl (.inl (.inl h))⟩) (.inr (.inr (.inr (.inr (.inr ⟨rfl, rfl, rfl⟩)))))
theorem growNew {n : Nat} (h1 : 0 < n) (h2 : n < 1000000) (S : Mem) : CallD Tryz.prog O 139 [.nils, .int .i64 (n : Int)] S fun d S' => S' = S ++ [.obj []] ∧ d = .msl S.length 1 0 :=
  CallD.growOrc (c := libG) (fun f args S d S' h => .inr (.inr h)) ⟨rfl, rfl, h1, h2⟩
/-- Strings in cells of the abstract machine. -/
def strC (l : List ByteArray) : List D := l.map .str
def bs (l : List ByteArray) : List (List UInt8) := l.map (·.data.toList)
def sb (l : List (List UInt8)) : List ByteArray := l.map fun x => ⟨x.toArray⟩
theorem sb_bs : ∀ {l : List ByteArray}, sb (bs l) = l
  | [] => rfl
  | x :: l => by
    show (⟨x.data.toList.toArray⟩ : ByteArray) :: sb (bs l) = x :: l
    rw [sb_bs]
theorem strV_sb {l : List (List UInt8)} : (strV l).map ofS = strC (sb l) := by
  simp only [strV, strC, sb, List.map_map]
  rfl
def sortL (l : List ByteArray) : List ByteArray := sb ((bs l).mergeSort fun x y => decide (x ≤ y))
def compactL (l : List ByteArray) : List ByteArray := sb (Lib.compact (bs l))
theorem sortM {l : List ByteArray} (hl : l.length < 1000000) {o : Nat} {S : Mem} (ho : objAt S o = some (strC l)) : CallD Tryz.prog O 105 [.msl o 1 l.length] S fun d S' => S' = S.set o (.obj (strC (sortL l))) ∧ d = .tup [] := by
  have := CallD.rewOrc (P := Tryz.prog) (orc := O) (c := libR) (f := 105) (o := o) (old := strV (bs l)) (ret := false) (S := S) (fun f args S d S' h => .inr (.inl h)) (.inl ⟨rfl, bs l, by simpa [bs] using hl, rfl, rfl, rfl⟩) (by rw [strV_sb, sb_bs]; exact ho)
  rw [strV_sb, strV_length, show (bs l).length = l.length by simp [bs]] at this
  exact this
theorem compactM {l : List ByteArray} (hl : l.length < 1000000) {o : Nat} {S : Mem} (ho : objAt S o = some (strC l)) : CallD Tryz.prog O 107 [.msl o 1 l.length] S fun d S' => S' = S.set o (.obj (strC (compactL l))) ∧ d = .msl o 1 (compactL l).length := by
  have := CallD.rewOrc (P := Tryz.prog) (orc := O) (c := libR) (f := 107) (o := o) (old := strV (bs l)) (ret := true) (S := S) (fun f args S d S' h => .inr (.inl h)) (.inr ⟨rfl, bs l, by simpa [bs] using hl, rfl, rfl, rfl⟩) (by rw [strV_sb, sb_bs]; exact ho)
  rw [strV_sb, strV_length, show (bs l).length = l.length by simp [bs]] at this
  rw [show (compactL l).length = (strV (Lib.compact (bs l))).length by simp [compactL, sb, strV_length]]
  exact this
end Go.Proofs.DeT
