/- What Go's library does, told to the machine. -/
import Derived.Test.YtpdnaoahghfaoaaGreatDoorDwS1
import Derived.Test.YtpdnaoahghfaoaaGreatDoorDmWx
import Derived.Test.YtpdnaoahghfaoaaGreatDoorAwC1
import Derived.Test.YtpdnaoahghfaoaaGreatDoorDeShelf
import Derived.Test.YtpdnaoahghfaoaaGreatDoorDwPut
import Derived.Lib.SmallJoins
import Derived.Lib.SplitLaws
set_option linter.unusedSimpArgs false
set_option linter.unusedVariables false
namespace Go.Proofs.DwT
open Go Go.DM Go.Proofs.DeT
set_option maxRecDepth 100000

def piecesOf (s sep : ByteArray) : List ByteArray := Lib.splitB sep 0 (Lib.countB s sep) s
theorem piecesOf_length {s sep : ByteArray} (h : 1 ≤ sep.size) : (piecesOf s sep).length = Lib.countB s sep + 1 := Lib.splitB_all sep h 0 _ s rfl
def trimB (s p : ByteArray) : ByteArray := ⟨(Lib.trimPrefix s.data.toList p.data.toList).toArray⟩
def hasB (s p : ByteArray) : Bool := Lib.hasPrefix s.data.toList p.data.toList
def decB (n : Int) : ByteArray := ⟨(Lib.itoa n).toArray⟩
def joinB (xs : List ByteArray) (sep : ByteArray) : ByteArray := ⟨(Lib.join (xs.map (·.data.toList)) sep.data.toList).toArray⟩
def libC : ClosedT := fun f vs v =>
  (f = 143 ∧ ∃ s p, vs = [.string s, .string p] ∧ v = .tuple #[.string (trimB s p), .bool (hasB s p)]) ∨
  (f = 99 ∧ ∃ n, -9223372036854775808 ≤ n ∧ n ≤ 9223372036854775807 ∧ vs = [.int .i64 n, .int .i64 10] ∧ v = .string (decB n))
def libN : NewT := fun f vs cs => f = 144 ∧ ∃ s sep, vs = [.string s, .string sep] ∧ s.size < 4294967281 ∧ 1 ≤ sep.size ∧ cs = (piecesOf s sep).map .string
def libJ : POracle := fun f args d => f = 65 ∧ ∃ own xs sep, args = [.sl own 1 xs.length (xs.map .str), .str sep] ∧ xs.length ≤ 140737488355328 ∧ (joinB xs sep).size ≤ 140737488355328 ∧ d = .str (joinB xs sep)
/-- What the abstract machine shows of the document's cutting of a path. -/
def cutT : AmT := fun f vs cs => f = 200 ∧ ∃ s : ByteArray, s.size < 1000000 ∧ s.data[0]? = some 47 ∧ 1 < s.size ∧ vs = [.string s] ∧ cs = (AwT.cutP (s.data.toList.drop 1)).map .string
/-- What is known of the library. -/
def libP (f K B : Nat) : Prop := f = 76 ∧ K = 5 ∧ B = 72
def libX (f K : Nat) : Prop := f = 79 ∧ K = 5
def O : DOracle := orOrcD (pureO (orOrc (orOrc (orOrc (closedOrc libC) (newOrc libN)) (amOrc cutT)) libJ)) (orOrcD (putOrc libP) (cutOrc libX))
theorem cutT_ok : AmOk Tryz.prog cutT := by
  refine ⟨?_, ?_, ?_⟩
  · rintro f vs cs ⟨rfl, s, _, _, _, rfl, rfl⟩ u hu
    simp at hu
    subst hu
    exact ⟨rfl, rfl⟩
  · rintro f vs cs ⟨rfl, s, _, _, _, rfl, rfl⟩
    refine ⟨by simp [AwT.cutP], fun u hu => ?_⟩
    obtain ⟨x, _, rfl⟩ := List.mem_map.1 hu
    rfl
  · rintro f vs cs ⟨rfl, s, h1, h2, h3, rfl, rfl⟩
    have := AwT.cutA (orc := AM.noOrc) s h1 h2 h3
    unfold AmNew
    simpa only [List.length_map] using this

/-- What a law's first memory has of the library's variables. -/
structure Start (w0 : World) : Prop where
  most : ∃ m, w0.cell? ⟨1, 0, none⟩ = some (.int .i64 m)
  pow : Lib.TabIs Tryz.prog w0 "internal/strconv.uint64pow10" .u64 Lib.pow10Tab
theorem cell_lt {w : World} {b o : Nat} {v : Value} (h : w.cell? ⟨b, o, none⟩ = some v) : b < w.heap.size := by
  unfold World.cell? at h
  split at h
  · rename_i hh
    exact (Array.getElem?_eq_some_iff.1 hh).1
  · cases h
theorem O_sound {w0 : World} (hs : Start w0) : DOrcSound Tryz.prog (keepsB w0) O := by
  have tab : ∀ {w : World}, RowKit.Below w0.heap.size w0 w → Lib.TabIs Tryz.prog w "internal/strconv.uint64pow10" .u64 Lib.pow10Tab := fun hb =>
    Joins.tab_stays (g := (Tryz.prog.globalNamed "internal/strconv.uint64pow10").getD 0) (by kernel_rfl) hs.pow hb (Nat.le_refl _)
  obtain ⟨m, hm⟩ := hs.most
  refine orOrcD_sound (pureO_sound (orOrc_sound (orOrc_sound (orOrc_sound (closedOrc_sound ⟨?_, ?_, ?_⟩) (newOrc_sound ⟨?_, ?_, ?_⟩)) (amOrc_sound cutT_ok)) ?_)) (orOrcD_sound (putOrc_sound fun f K B ⟨h1, h2, h3⟩ => h1 ▸ h2 ▸ h3 ▸ putAttr) (cutOrc_sound fun f K ⟨h1, h2⟩ => h1 ▸ h2 ▸ cutAttr))
  · rintro f vs v (⟨rfl, s, p, rfl, rfl⟩ | ⟨rfl, n, _, _, rfl, rfl⟩) u hu <;> simp at hu <;> rcases hu with rfl | rfl <;> exact ⟨rfl, rfl⟩
  · rintro f vs v (⟨rfl, s, p, rfl, rfl⟩ | ⟨rfl, n, _, _, rfl, rfl⟩)
    · simp [AM.closedV, AM.scalarV]
    · rfl
  · rintro f vs v (⟨rfl, s, p, rfl, rfl⟩ | ⟨rfl, n, h1, h2, rfl, rfl⟩) φ H w ⟨hb, _⟩
    · exact (Tryz.strings_CutPrefix s p w).mono fun e w' ⟨he, hw⟩ => ⟨he, hw ▸ .refl _ _⟩
    · refine (Tryz.strconv_FormatInt_10 n h1 h2 w (tab hb)).mono fun e w' ⟨he, k, os, hw⟩ => ⟨he, ?_⟩
      subst hw
      refine ⟨rfl, rfl, rfl, by simp [Sort.grow, World.drewN], fun k hk => ?_⟩
      exact Array.getElem?_append_left hk
  · rintro f vs v ⟨rfl, s, sep, rfl, _, _, rfl⟩ u hu
    simp at hu
    rcases hu with rfl | rfl <;> exact ⟨rfl, rfl⟩
  · rintro f vs v ⟨rfl, s, sep, rfl, _, _, rfl⟩ u hu
    obtain ⟨x, _, rfl⟩ := List.mem_map.1 hu
    rfl
  · rintro f vs v ⟨rfl, s, sep, rfl, h1, h2, rfl⟩ φ H w ⟨hb, _⟩
    refine ⟨9, (Tryz.strings_Split s sep m w h1 (by rw [hb.cell (by exact cell_lt hm)]; exact hm) h2).mono fun e w' ⟨he, hw⟩ => ⟨?_, hw⟩⟩
    rw [he, List.length_map, piecesOf_length h2]
  · rintro f args d ⟨rfl, own, xs, sep, rfl, h1, h2, rfl⟩ r φ w hs vs args' dl hargs
    obtain ⟨v1, v2, rfl⟩ : ∃ v1 v2, vs = [v1, v2] := by
      have := dl.1
      match vs, this with | [v1, v2], _ => exact ⟨v1, v2, rfl⟩
    obtain ⟨u1, u2, hu⟩ : ∃ u1 u2, args'.toList = [u1, u2] := by
      have := hargs.1
      match h : args'.toList, this with | [v1, v2], _ => exact ⟨v1, v2, rfl⟩
    rw [hu] at hargs
    have e2 : v2 = .string sep := by have := dl.tail.head; cases this; rfl
    subst e2
    have e3 : u2 = .string sep := hargs.tail.head.scalar_eq rfl
    subst e3
    have ea : args' = #[u1, .string sep] := by rw [← Array.toList_inj, hu]
    subst ea
    have hx : xs.map D.str = (xs.map Value.string).map ofS := by simp [ofS, Function.comp_def]
    have hd := dl.head
    rw [hx] at hd
    have ret : Calls Tryz.prog 65 #[u1, .string sep] w fun e w' => e = .returned (.string (joinB xs sep)) ∧ RowKit.Below w.heap.size w w' := by
      rcases slice_of hs.1 (n := xs.length) (cs := xs.map .string) (by simp; intros; rfl) (by simp; intros; rfl) hd hargs.head with ⟨h0, hn, a, c, rfl⟩ | ⟨hn, bk, o, c, rfl, hc, hbk, hcell⟩
      · have : xs = [] := List.eq_nil_of_length_eq_zero h0
        subst this
        exact (Tryz.strings_Join_none a c sep w).mono fun e w' ⟨he, hw⟩ => ⟨he, hw ▸ .refl _ _⟩
      · rw [List.length_map] at hc ⊢
        refine (Tryz.strings_Join bk o c xs sep w (fun j x hj => hcell j _ (by simp [hj])) hbk h1 hc ?_).mono fun e w' ⟨he, hw⟩ => ⟨he, hw⟩
        have : (joinB xs sep).size = (Lib.join (xs.map (·.data.toList)) sep.data.toList).length := by simp [joinB, ByteArray.size]
        omega
    exact ret.mono fun e w' ⟨he, hw⟩ => ⟨r, .string (joinB xs sep), .string (joinB xs sep), φ, he, .refl r, fun S h => h, step_below hs.1 hw, .str _, .string _⟩

theorem cutPrefix (s p : ByteArray) (S : Mem) : CallD Tryz.prog O 143 [.str s, .str p] S fun d S' => S' = S ∧ d = .tup [.str (trimB s p), .bool (hasB s p)] :=
  CallD.closedOrc (c := libC) (us := [.string s, .string p]) (fun f args d h S => .inl ⟨rfl, .inl (.inl (.inl h))⟩) (.inl ⟨rfl, s, p, rfl, rfl⟩)
theorem formatInt (n : Int) (h1 : -9223372036854775808 ≤ n) (h2 : n ≤ 9223372036854775807) (S : Mem) : CallD Tryz.prog O 99 [.int .i64 n, .int .i64 10] S fun d S' => S' = S ∧ d = .str (decB n) :=
  CallD.closedOrc (c := libC) (us := [.int .i64 n, .int .i64 10]) (fun f args d h S => .inl ⟨rfl, .inl (.inl (.inl h))⟩) (.inr ⟨rfl, n, h1, h2, rfl, rfl⟩)
theorem split (s sep : ByteArray) (h1 : s.size < 4294967281) (h2 : 1 ≤ sep.size) (S : Mem) : CallD Tryz.prog O 144 [.str s, .str sep] S fun d S' => S' = S ∧ d = .sl none 1 (piecesOf s sep).length ((piecesOf s sep).map .str) := by
  have := CallD.newOrc (P := Tryz.prog) (orc := O) (S := S) (c := libN) (us := [.string s, .string sep]) (fun f args d h S => .inl ⟨rfl, .inl (.inl (.inr h))⟩) ⟨rfl, s, sep, rfl, h1, h2, rfl⟩
  simpa [ofV, ofS, Function.comp_def] using this
theorem join (own : Option Nat) (xs : List ByteArray) (sep : ByteArray) (h1 : xs.length ≤ 140737488355328) (h2 : (joinB xs sep).size ≤ 140737488355328) (S : Mem) :
    CallD Tryz.prog O 65 [.sl own 1 xs.length (xs.map .str), .str sep] S fun d S' => S' = S ∧ d = .str (joinB xs sep) :=
  ⟨_, _, .orc (.inl ⟨rfl, .inr ⟨rfl, own, xs, sep, rfl, h1, h2, rfl⟩⟩), rfl, rfl⟩
theorem cutO (s : ByteArray) (h1 : s.size < 1000000) (h2 : s.data[0]? = some 47) (h3 : 1 < s.size) (S : Mem) : CallD Tryz.prog O 200 [.str s] S fun d S' => S' = S ∧ d = .tup [.sl none 1 (AwT.cutP (s.data.toList.drop 1)).length ((AwT.cutP (s.data.toList.drop 1)).map .str), .bool true] := by
  have := CallD.amOrc (P := Tryz.prog) (orc := O) (S := S) (c := cutT) (us := [.string s]) (fun f args d h S => .inl ⟨rfl, .inl (.inr h)⟩) ⟨rfl, s, h1, h2, h3, rfl, rfl⟩
  simpa [ofV, ofS, Function.comp_def] using this
/-- An attribute put in, taken out. -/
theorem insert {o n i : Nat} {own : Option Nat} {cells new : List D} {S : Mem} (hnl : new.length = 5) (hin : i ≤ n) (hlim : n ≤ 1000000) (h1c : cells.all D.one = true) (h1n : new.all D.one = true) (hob : objAt S o = some cells) (hcl : cells.length = n * 5) :
    CallD Tryz.prog O 76 [.msl o 5 n, .int .i64 (i : Int), .sl own 5 1 new] S fun d S' => S' = S.set o .dead ++ [.obj (putL cells (i * 5) new)] ∧ d = .msl S.length 5 (n + 1) :=
  CallD.putOrc (c := libP) (fun f args S d S' h => .inr (.inl h)) ⟨rfl, rfl, rfl⟩ (by decide) hnl hin (by omega) h1c h1n hob hcl
theorem insert0 {own : Option Nat} {new : List D} {S : Mem} (hnl : new.length = 5) (h1n : new.all D.one = true) :
    CallD Tryz.prog O 76 [.nils, .int .i64 ((0 : Nat) : Int), .sl own 5 1 new] S fun d S' => S' = S ++ [.obj new] ∧ d = .msl S.length 5 1 :=
  CallD.putOrc0 (c := libP) (fun f args S d S' h => .inr (.inl h)) ⟨rfl, rfl, rfl⟩ (by decide) hnl (by decide) h1n
theorem delete {o n i : Nat} {cells : List D} {S : Mem} (hin : i < n) (h1c : cells.all D.one = true) (hob : objAt S o = some cells) (hcl : cells.length = n * 5) :
    CallD Tryz.prog O 79 [.msl o 5 n, .int .i64 (i : Int), .int .i64 ((i + 1 : Nat) : Int)] S fun d S' => S' = S.set o (.obj (cutL cells (i * 5) 5)) ∧ d = .msl o 5 (n - 1) :=
  CallD.cutOrc (c := libX) (fun f args S d S' h => .inr (.inr h)) ⟨rfl, rfl⟩ (by decide) hin h1c hob hcl
end Go.Proofs.DwT
