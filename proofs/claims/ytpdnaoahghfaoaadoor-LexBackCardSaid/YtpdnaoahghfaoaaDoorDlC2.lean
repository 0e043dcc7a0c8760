/- What Go's library does, told to the machine. -/
import Derived.Test.YtpdnaoahghfaoaaDoorDlC1
import Derived.Test.YtpdnaoahghfaoaaDoorDlShelf
import Derived.Lib.SmallJoins
set_option linter.unusedSimpArgs false
set_option linter.unusedVariables false
namespace Go.Proofs.DlT
open Go Go.DM
set_option maxRecDepth 100000

def twoL : List ByteArray := [⟨#[33, 61]⟩, ⟨#[60, 61]⟩, ⟨#[62, 61]⟩]
def joinB (xs : List ByteArray) (sep : ByteArray) : ByteArray := ⟨(Lib.join (xs.map (·.data.toList)) sep.data.toList).toArray⟩
def libC : ClosedT := fun f vs v =>
  (f = 33 ∧ ∃ b : UInt8, vs = [.string (⟨#[40, 41, 44, 61, 60, 62, 43, 45, 42, 47, 37]⟩ : ByteArray), .string ⟨#[b]⟩] ∧ v = .bool (decide (b ∈ sgnL))) ∨
  (f = 30 ∧ ∃ (s : ByteArray) (n : Int), s.size < 1000000 ∧ Lib.parseIntB 64 s.data.toList = .ok n ∧ vs = [.string s, .int .i64 10, .int .i64 64] ∧ v = .tuple #[.int .i64 n, .nilIface])
def libN : NewT := fun f vs cs => f = 32 ∧ vs = [.string (⟨#[33, 61, 32, 60, 61, 32, 62, 61]⟩ : ByteArray)] ∧ cs = twoL.map .string
def libE : ErrT := fun f vs u t => f = 30 ∧ ∃ s : ByteArray, s.size < 1000000 ∧ Lib.parseIntB 64 s.data.toList = .range ∧ vs = [.string s, .int .i64 10, .int .i64 64] ∧ u = .int .i64 (Lib.intSat 64 s.data.toList) ∧ t = 78
def libJ : DOracle := fun f args d => f = 19 ∧ ∃ own xs sep, args = [.sl own 1 xs.length (xs.map .str), .str sep] ∧ xs.length ≤ 140737488355328 ∧ (joinB xs sep).size ≤ 140737488355328 ∧ d = .str (joinB xs sep)
def libS : DOracle := fun f args d => f = 31 ∧ ∃ own xs x, args = [.sl own 1 xs.length (xs.map .str), .str x] ∧ xs.length < 1000000 ∧ d = .bool (Lib.containsS xs x)
/-- What is known of the library. -/
def O : DOracle := orOrc (orOrc (orOrc (orOrc (closedOrc libC) (newOrc libN)) (errOrc libE)) libJ) libS

/-- What a law's first memory has of the library's variables. -/
structure Start (w0 : World) : Prop where
  sp : Lib.TabIs Tryd.prog w0 "strings.asciiSpace" .u8 Lib.asciiSpaceTab
  er : ∃ te pe, w0.var? Tryd.prog "strconv.ErrRange" = some #[.iface te pe]

theorem index_mem : ∀ (l : List UInt8) (b : UInt8), decide (0 ≤ Lib.indexByte l b) = decide (b ∈ l)
  | [], b => by simp [Lib.indexByte]
  | x :: l, b => by
    have ih := index_mem l b
    rw [Bool.eq_iff_iff, decide_eq_true_iff, decide_eq_true_iff] at ih ⊢
    rw [Lib.indexByte, List.mem_cons]
    by_cases h : x = b
    · subst h; simp
    · have hb : (x == b) = false := by simp [h]
      have h' : ¬ b = x := fun e => h e.symm
      rw [hb]
      simp only [Bool.false_eq_true, if_false, h', false_or]
      rw [← ih]
      by_cases h1 : Lib.indexByte l b = -1
      · simp [h1]
      · have : (Lib.indexByte l b == -1) = false := by simp [h1]
        rw [this]
        simp only [Bool.false_eq_true, if_false]
        have hge : -1 ≤ Lib.indexByte l b := index_ge l b
        omega
where
  index_ge : ∀ (l : List UInt8) (b : UInt8), -1 ≤ Lib.indexByte l b
    | [], b => by simp [Lib.indexByte]
    | x :: l, b => by
      have := index_ge l b
      rw [Lib.indexByte]
      split
      · decide
      · split <;> omega

/-- A call on a slice of texts, in the model. -/
theorem onStrs {f : FuncId} {w : World} {r : Rl} {φ : Nat → AM.Place} (hs : AM.Sim φ r.H w) {own : Option Nat} {xs : List ByteArray} {x : ByteArray} {d : Value}
    (hd : AM.scalarV d = true) (h0 : xs = [] → ∀ a c, Calls Tryd.prog f #[.slice a 0 c, .string x] w fun e w' => e = .returned d ∧ RowKit.Below w.heap.size w w')
    (h1 : ∀ bk o c, xs.length ≤ c → bk < w.heap.size → (∀ j y, xs[j]? = some y → w.cell? ⟨bk, o + j, none⟩ = some (.string y)) → Calls Tryd.prog f #[.slice (some ⟨bk, o, none⟩) xs.length c, .string x] w fun e w' => e = .returned d ∧ RowKit.Below w.heap.size w w')
    {vs : List Value} {args' : Array Value} (dl : DL r [.sl own 1 xs.length (xs.map .str), .str x] vs) (hargs : AM.LRel r.H.length φ vs args'.toList) :
    Calls Tryd.prog f args' w fun e w' => ∃ r' u v' φ', e = .returned v' ∧ r.Le r' ∧ (∀ S, SRel r S → SRel r' S) ∧ AM.Step 0 φ r.H w φ' r'.H w' ∧ DRel r' (ofS d) u ∧ AM.VRel r'.H.length φ' u v' := by
  obtain ⟨v1, v2, rfl⟩ : ∃ v1 v2, vs = [v1, v2] := by
    have := dl.1
    match vs, this with | [v1, v2], _ => exact ⟨v1, v2, rfl⟩
  obtain ⟨u1, u2, hu⟩ : ∃ u1 u2, args'.toList = [u1, u2] := by
    have := hargs.1
    match h : args'.toList, this with | [v1, v2], _ => exact ⟨v1, v2, rfl⟩
  rw [hu] at hargs
  have e2 : v2 = .string x := by have := dl.tail.head; cases this; rfl
  subst e2
  have e3 : u2 = .string x := hargs.tail.head.scalar_eq rfl
  subst e3
  have ea : args' = #[u1, .string x] := by rw [← Array.toList_inj, hu]
  subst ea
  have hx : xs.map D.str = (xs.map Value.string).map ofS := by simp [ofS, Function.comp_def]
  have hd0 := dl.head
  rw [hx] at hd0
  have ret : Calls Tryd.prog f #[u1, .string x] w fun e w' => e = .returned d ∧ RowKit.Below w.heap.size w w' := by
    rcases slice_of hs (n := xs.length) (cs := xs.map .string) (by simp; intros; rfl) (by simp; intros; rfl) hd0 hargs.head with ⟨h0', hn, a, c, rfl⟩ | ⟨hn, bk, o, c, rfl, hc, hbk, hcell⟩
    · have : xs = [] := List.eq_nil_of_length_eq_zero h0'
      exact h0 this a c
    · rw [List.length_map] at hc ⊢
      exact h1 bk o c hc hbk fun j y hj => hcell j _ (by simp [hj])
  exact ret.mono fun e w' ⟨he, hw⟩ => ⟨r, d, d, φ, he, .refl r, fun S h => h, step_below hs hw, .ofS _, .scalar hd⟩

theorem O_sound {w0 : World} (hs : Start w0) : DOrcSound Tryd.prog (keepsB w0) O := by
  have tab : ∀ {w : World}, RowKit.Below w0.heap.size w0 w → Lib.TabIs Tryd.prog w "strings.asciiSpace" .u8 Lib.asciiSpaceTab := fun hb =>
    Joins.tab_stays (g := (Tryd.prog.globalNamed "strings.asciiSpace").getD 0) (by kernel_rfl) hs.sp hb (Nat.le_refl _)
  obtain ⟨te, pe, her⟩ := hs.er
  refine orOrc_sound (orOrc_sound (orOrc_sound (orOrc_sound (closedOrc_sound ⟨?_, ?_, ?_⟩) (newOrc_sound ⟨?_, ?_, ?_⟩)) (errOrc_sound ⟨?_, ?_, ?_⟩)) ?_) ?_
  · rintro f vs v (⟨rfl, b, rfl, rfl⟩ | ⟨rfl, s, n, _, _, rfl, rfl⟩) u hu <;> simp at hu
    · rcases hu with rfl | rfl <;> exact ⟨rfl, rfl⟩
    · rcases hu with rfl | rfl | rfl <;> exact ⟨rfl, rfl⟩
  · rintro f vs v (⟨rfl, b, rfl, rfl⟩ | ⟨rfl, s, n, _, _, rfl, rfl⟩)
    · rfl
    · simp [AM.closedV, AM.scalarV]
  · rintro f vs v (⟨rfl, b, rfl, rfl⟩ | ⟨rfl, s, n, h1, h2, rfl, rfl⟩) φ H w ⟨hb, _⟩
    · exact (Tryd.strings_Contains_one (⟨#[40, 41, 44, 61, 60, 62, 43, 45, 42, 47, 37]⟩ : ByteArray) b w).mono fun e w' ⟨he, hw⟩ => ⟨by rw [he, index_mem]; rfl, hw ▸ .refl _ _⟩
    · refine (Tryd.strconv_ParseInt_10_at64_ok s (by omega) n h2 w).mono fun e w' ⟨he, hw⟩ => ⟨he, ?_⟩
      rcases hw with rfl | ⟨t, rfl⟩
      · exact .refl _ _
      · exact Lib.bytesWorld_below _ _ _
  · rintro f vs v ⟨rfl, rfl, rfl⟩ u hu
    simp at hu
    subst hu
    exact ⟨rfl, rfl⟩
  · rintro f vs v ⟨rfl, rfl, rfl⟩ u hu
    simp [twoL] at hu
    rcases hu with rfl | rfl | rfl <;> rfl
  · rintro f vs v ⟨rfl, rfl, rfl⟩ φ H w ⟨hb, _⟩
    refine ⟨9, (Tryd.strings_Fields_laid (⟨#[33, 61, 32, 60, 61, 32, 62, 61]⟩ : ByteArray) w (by decide) (fun j b h => (show ∀ x ∈ [33, 61, 32, 60, 61, 32, 62, (61 : UInt8)], x.toNat < 128 by decide) b (List.mem_of_getElem? h)) (tab hb)).mono fun e w' ⟨he, hw⟩ => ⟨?_, ?_⟩⟩
    · rw [he]; rfl
    · rw [hw]; rfl
  · rintro f vs u t ⟨rfl, s, _, _, rfl, rfl, rfl⟩ x hx
    simp at hx
    rcases hx with rfl | rfl | rfl <;> exact ⟨rfl, rfl⟩
  · rintro f vs u t ⟨rfl, s, _, _, rfl, rfl, rfl⟩
    rfl
  · rintro f vs u t ⟨rfl, s, h1, h2, rfl, rfl, rfl⟩ φ H w ⟨hb, _⟩
    have hv : w.var? Tryd.prog "strconv.ErrRange" = some #[.iface te pe] := by
      exact Joins.var_stays (g := (Tryd.prog.globalNamed "strconv.ErrRange").getD 0) (by kernel_rfl) her hb (Nat.le_refl _)
    exact (Tryd.strconv_ParseInt_10_at64_range_var s (by omega) h2 te pe w hv).mono fun e w' ⟨N, he, _, _, hw⟩ => ⟨⟨N, he⟩, hw⟩
  · rintro f args d ⟨rfl, own, xs, sep, rfl, h1, h2, rfl⟩ r φ w hs vs args' dl hargs
    refine onStrs (d := .string (joinB xs sep)) hs.1 rfl (fun e a c => ?_) (fun bk o c hc hbk hcell => ?_) dl hargs
    · subst e
      exact (Tryd.strings_Join_none a c sep w).mono fun e w' ⟨he, hw⟩ => ⟨he, hw ▸ .refl _ _⟩
    · refine (Tryd.strings_Join bk o c xs sep w hcell hbk h1 hc ?_).mono fun e w' ⟨he, hw⟩ => ⟨he, hw⟩
      have : (joinB xs sep).size = (Lib.join (xs.map (·.data.toList)) sep.data.toList).length := by simp [joinB, ByteArray.size]
      omega
  · rintro f args d ⟨rfl, own, xs, x, rfl, h1, rfl⟩ r φ w hs vs args' dl hargs
    refine onStrs (d := .bool (Lib.containsS xs x)) hs.1 rfl (fun e a c => ?_) (fun bk o c hc hbk hcell => ?_) dl hargs
    · subst e
      exact (Tryd.slices_Contains_string_empty a c x w).mono fun e w' ⟨he, hw⟩ => ⟨he, hw ▸ .refl _ _⟩
    · refine (Tryd.slices_Contains_string bk o xs.length c xs x w (Nat.le_refl _) (by omega) fun j hj => ?_).mono fun e w' ⟨he, hw⟩ => ⟨by rw [he, List.take_length], hw ▸ .refl _ _⟩
      exact hcell j _ (by simp [hj])

theorem contains1 (b : UInt8) (S : Mem) : CallD Tryd.prog O 33 [.str (⟨#[40, 41, 44, 61, 60, 62, 43, 45, 42, 47, 37]⟩ : ByteArray), .str ⟨#[b]⟩] S fun d S' => S' = S ∧ d = .bool (decide (b ∈ sgnL)) :=
  CallD.closedOrc (c := libC) (us := [.string (⟨#[40, 41, 44, 61, 60, 62, 43, 45, 42, 47, 37]⟩ : ByteArray), .string ⟨#[b]⟩]) (fun f args d h => .inl (.inl (.inl (.inl h)))) (.inl ⟨rfl, b, rfl, rfl⟩)
theorem parseOk (s : ByteArray) (n : Int) (h1 : s.size < 1000000) (h2 : Lib.parseIntB 64 s.data.toList = .ok n) (S : Mem) : CallD Tryd.prog O 30 [.str s, .int .i64 10, .int .i64 64] S fun d S' => S' = S ∧ d = .tup [.int .i64 n, .nili] :=
  CallD.closedOrc (c := libC) (us := [.string s, .int .i64 10, .int .i64 64]) (fun f args d h => .inl (.inl (.inl (.inl h)))) (.inr ⟨rfl, s, n, h1, h2, rfl, rfl⟩)
theorem parseBad (s : ByteArray) (h1 : s.size < 1000000) (h2 : Lib.parseIntB 64 s.data.toList = .range) (S : Mem) : CallD Tryd.prog O 30 [.str s, .int .i64 10, .int .i64 64] S fun d S' => S' = S ∧ d = .tup [.int .i64 (Lib.intSat 64 s.data.toList), .iface 78 .bot] :=
  CallD.errOrc (c := libE) (us := [.string s, .int .i64 10, .int .i64 64]) (u := .int .i64 (Lib.intSat 64 s.data.toList)) (fun f args d h => .inl (.inl (.inr h))) ⟨rfl, s, h1, h2, rfl, rfl, rfl⟩
theorem fieldsTwo (S : Mem) : CallD Tryd.prog O 32 [.str (⟨#[33, 61, 32, 60, 61, 32, 62, 61]⟩ : ByteArray)] S fun d S' => S' = S ∧ d = .sl none 1 3 (twoL.map .str) :=
  CallD.newOrc (P := Tryd.prog) (orc := O) (S := S) (c := libN) (us := [.string (⟨#[33, 61, 32, 60, 61, 32, 62, 61]⟩ : ByteArray)]) (fun f args d h => .inl (.inl (.inl (.inr h)))) ⟨rfl, rfl, rfl⟩
theorem join (own : Option Nat) (xs : List ByteArray) (sep : ByteArray) (h1 : xs.length ≤ 140737488355328) (h2 : (joinB xs sep).size ≤ 140737488355328) (S : Mem) :
    CallD Tryd.prog O 19 [.sl own 1 xs.length (xs.map .str), .str sep] S fun d S' => S' = S ∧ d = .str (joinB xs sep) :=
  ⟨_, _, .orc (.inl (.inr ⟨rfl, own, xs, sep, rfl, h1, h2, rfl⟩)), rfl, rfl⟩
theorem containsTwo (own : Option Nat) (x : ByteArray) (S : Mem) : CallD Tryd.prog O 31 [.sl own 1 3 (twoL.map .str), .str x] S fun d S' => S' = S ∧ d = .bool (Lib.containsS twoL x) :=
  ⟨_, _, .orc (.inr ⟨rfl, own, twoL, x, rfl, by decide, rfl⟩), rfl, rfl⟩
end Go.Proofs.DlT
