/- The facts on the types of this program that the walks go by: printed by a program of this work. -/
import Derived.Test.YtipeffaojbhbmaaProg
import Derived.Test.YtipeffaojbhbmaaAmL
import Derived.KernelRfl
namespace Go.Proofs.AmT1
open Go Go.AM
theorem sz24 : sizeA Try.prog 24 = some 4 := by kernel_rfl
theorem sz51 : sizeA Try.prog 51 = some 5 := by kernel_rfl
theorem sz31 : sizeA Try.prog 31 = some 4 := by kernel_rfl
theorem sz74 : sizeA Try.prog 74 = some 5 := by kernel_rfl
theorem sz2 : sizeA Try.prog 2 = some 1 := by kernel_rfl
theorem sz9 : sizeA Try.prog 9 = some 1 := by kernel_rfl
theorem sz61 : sizeA Try.prog 61 = some 2 := by kernel_rfl
theorem sz45 : sizeA Try.prog 45 = some 1 := by kernel_rfl
theorem ag2 : isAggA Try.prog 2 = some false := by kernel_rfl
theorem sz3 : sizeA Try.prog 3 = some 1 := by kernel_rfl
theorem ag3 : isAggA Try.prog 3 = some false := by kernel_rfl
theorem sz4 : sizeA Try.prog 4 = some 1 := by kernel_rfl
theorem ag4 : isAggA Try.prog 4 = some false := by kernel_rfl
theorem sz5 : sizeA Try.prog 5 = some 1 := by kernel_rfl
theorem ag5 : isAggA Try.prog 5 = some false := by kernel_rfl
theorem ag9 : isAggA Try.prog 9 = some false := by kernel_rfl
theorem sz22 : sizeA Try.prog 22 = some 1 := by kernel_rfl
theorem ag22 : isAggA Try.prog 22 = some false := by kernel_rfl
theorem ag24 : isAggA Try.prog 24 = some true := by kernel_rfl
theorem sz25 : sizeA Try.prog 25 = some 1 := by kernel_rfl
theorem ag25 : isAggA Try.prog 25 = some false := by kernel_rfl
theorem sz29 : sizeA Try.prog 29 = some 1 := by kernel_rfl
theorem ag29 : isAggA Try.prog 29 = some false := by kernel_rfl
theorem ag31 : isAggA Try.prog 31 = some true := by kernel_rfl
theorem sz37 : sizeA Try.prog 37 = some 1 := by kernel_rfl
theorem ag37 : isAggA Try.prog 37 = some false := by kernel_rfl
theorem sz43 : sizeA Try.prog 43 = some 1 := by kernel_rfl
theorem ag43 : isAggA Try.prog 43 = some false := by kernel_rfl
theorem sz44 : sizeA Try.prog 44 = some 1 := by kernel_rfl
theorem ag44 : isAggA Try.prog 44 = some false := by kernel_rfl
theorem ag45 : isAggA Try.prog 45 = some false := by kernel_rfl
theorem sz47 : sizeA Try.prog 47 = some 1 := by kernel_rfl
theorem ag47 : isAggA Try.prog 47 = some false := by kernel_rfl
theorem sz49 : sizeA Try.prog 49 = some 4 := by kernel_rfl
theorem ag49 : isAggA Try.prog 49 = some true := by kernel_rfl
theorem ag51 : isAggA Try.prog 51 = some true := by kernel_rfl
theorem sz57 : sizeA Try.prog 57 = some 4 := by kernel_rfl
theorem ag57 : isAggA Try.prog 57 = some true := by kernel_rfl
theorem sz59 : sizeA Try.prog 59 = some 6 := by kernel_rfl
theorem ag59 : isAggA Try.prog 59 = some true := by kernel_rfl
theorem ag61 : isAggA Try.prog 61 = some true := by kernel_rfl
theorem sz63 : sizeA Try.prog 63 = some 1 := by kernel_rfl
theorem ag63 : isAggA Try.prog 63 = some false := by kernel_rfl
theorem sz68 : sizeA Try.prog 68 = some 4 := by kernel_rfl
theorem ag68 : isAggA Try.prog 68 = some true := by kernel_rfl
theorem ag74 : isAggA Try.prog 74 = some true := by kernel_rfl
theorem sz76 : sizeA Try.prog 76 = some 1 := by kernel_rfl
theorem ag76 : isAggA Try.prog 76 = some false := by kernel_rfl
theorem sz96 : sizeA Try.prog 96 = some 1 := by kernel_rfl
theorem ag96 : isAggA Try.prog 96 = some false := by kernel_rfl
theorem F :
    (zeroA Try.prog 24 = some (.agg #[.string ⟨#[]⟩, .string ⟨#[]⟩, .int .i64 0, .slice none 0 0])) ∧
    (∀ {H : Heap} {x0_0 x0_1 x0_2 x0_3 x1_0 x1_1 x1_2 x1_3 : Value}, buildSliceA Try.prog 22 2 [(0, .agg #[x0_0, x0_1, x0_2, x0_3]), (1, .agg #[x1_0, x1_1, x1_2, x1_3])] H = some (.slice (some (atNew H)) 2 2, newA H [x0_0, x0_1, x0_2, x0_3, x1_0, x1_1, x1_2, x1_3] 4)) ∧
    (zeroA Try.prog 51 = some (.agg #[.string ⟨#[]⟩, .int .i64 0, .int .i64 0, .string ⟨#[]⟩, .slice none 0 0])) ∧
    (∀ {H : Heap} {x0_0 x0_1 x0_2 x0_3 x0_4 : Value}, buildSliceA Try.prog 25 1 [(0, .agg #[x0_0, x0_1, x0_2, x0_3, x0_4])] H = some (.slice (some (atNew H)) 1 1, newA H [x0_0, x0_1, x0_2, x0_3, x0_4] 5)) ∧
    (∀ {H : Heap} {x0_0 x0_1 x0_2 x0_3 x0_4 x1_0 x1_1 x1_2 x1_3 x1_4 : Value}, buildSliceA Try.prog 25 2 [(0, .agg #[x0_0, x0_1, x0_2, x0_3, x0_4]), (1, .agg #[x1_0, x1_1, x1_2, x1_3, x1_4])] H = some (.slice (some (atNew H)) 2 2, newA H [x0_0, x0_1, x0_2, x0_3, x0_4, x1_0, x1_1, x1_2, x1_3, x1_4] 5)) ∧
    (zeroA Try.prog 31 = some (.agg #[.string ⟨#[]⟩, .string ⟨#[]⟩, .int .i64 0, .slice none 0 0])) ∧
    (∀ {H : Heap} {x0_0 x0_1 x0_2 x0_3 : Value}, buildSliceA Try.prog 29 1 [(0, .agg #[x0_0, x0_1, x0_2, x0_3])] H = some (.slice (some (atNew H)) 1 1, newA H [x0_0, x0_1, x0_2, x0_3] 4)) ∧
    (zeroA Try.prog 74 = some (.agg #[.string ⟨#[]⟩, .int .i64 0, .int .i64 0, .string ⟨#[]⟩, .slice none 0 0])) ∧
    (∀ {H : Heap} {x0_0 x0_1 x0_2 x0_3 x0_4 : Value}, buildSliceA Try.prog 37 1 [(0, .agg #[x0_0, x0_1, x0_2, x0_3, x0_4])] H = some (.slice (some (atNew H)) 1 1, newA H [x0_0, x0_1, x0_2, x0_3, x0_4] 5)) ∧
    (zeroA Try.prog 2 = some (.int .i64 0)) ∧
    (∀ {H : Heap}, buildSliceA Try.prog 43 0 [] H = some (.slice (some (atNew H)) 0 0, newA H [] 1)) ∧
    (zeroA Try.prog 9 = some (.string ⟨#[]⟩)) ∧
    (∀ {H : Heap} {x0 : Value} (h0 : x0.cells = #[x0]), buildSliceA Try.prog 45 1 [(0, x0)] H = some (.slice (some (atNew H)) 1 1, newA H [x0] 1)) ∧
    (zeroA Try.prog 61 = some (.agg #[.int .i64 0, .bool false])) ∧
    (∀ {H : Heap} {x0_0 x0_1 : Value}, buildSliceA Try.prog 63 1 [(0, .agg #[x0_0, x0_1])] H = some (.slice (some (atNew H)) 1 1, newA H [x0_0, x0_1] 2)) ∧
    (zeroA Try.prog 45 = some (.slice none 0 0)) ∧
    (∀ {H : Heap} {x0 : Value} (h0 : x0.cells = #[x0]), buildSliceA Try.prog 76 1 [(0, x0)] H = some (.slice (some (atNew H)) 1 1, newA H [x0] 1)) ∧
    (Try.prog.underlying 2 = some (.int .i64)) ∧
    (∀ {h o : Nat} {H : Heap}, loadA Try.prog 2 (.pointer (some ⟨h, o, none⟩)) H = (hget H h).bind fun b => b.cells[o]?) ∧
    (∀ {base h o : Nat} {H : Heap} {k : IntKind} {x : Int}, storeA Try.prog base 2 (.pointer (some ⟨h, o, none⟩)) (.int k x) H = writeA base ⟨h, o, none⟩ [(.int k x)] H) ∧
    (Try.prog.underlying 3 = some (.int .i64)) ∧
    (∀ {h o : Nat} {H : Heap}, loadA Try.prog 3 (.pointer (some ⟨h, o, none⟩)) H = (hget H h).bind fun b => b.cells[o]?) ∧
    (∀ {base h o : Nat} {H : Heap} {k : IntKind} {x : Int}, storeA Try.prog base 3 (.pointer (some ⟨h, o, none⟩)) (.int k x) H = writeA base ⟨h, o, none⟩ [(.int k x)] H) ∧
    (zeroA Try.prog 3 = some (.int .i64 0)) ∧
    (Try.prog.underlying 4 = some (.bool)) ∧
    (∀ {h o : Nat} {H : Heap}, loadA Try.prog 4 (.pointer (some ⟨h, o, none⟩)) H = (hget H h).bind fun b => b.cells[o]?) ∧
    (∀ {base h o : Nat} {H : Heap} {x : Bool}, storeA Try.prog base 4 (.pointer (some ⟨h, o, none⟩)) (.bool x) H = writeA base ⟨h, o, none⟩ [(.bool x)] H) ∧
    (zeroA Try.prog 4 = some (.bool false)) ∧
    (Try.prog.underlying 5 = some (.int .u8)) ∧
    (∀ {h o : Nat} {H : Heap}, loadA Try.prog 5 (.pointer (some ⟨h, o, none⟩)) H = (hget H h).bind fun b => b.cells[o]?) ∧
    (∀ {base h o : Nat} {H : Heap} {k : IntKind} {x : Int}, storeA Try.prog base 5 (.pointer (some ⟨h, o, none⟩)) (.int k x) H = writeA base ⟨h, o, none⟩ [(.int k x)] H) ∧
    (zeroA Try.prog 5 = some (.int .u8 0)) ∧
    (Try.prog.underlying 9 = some (.string)) ∧
    (∀ {h o : Nat} {H : Heap}, loadA Try.prog 9 (.pointer (some ⟨h, o, none⟩)) H = (hget H h).bind fun b => b.cells[o]?) ∧
    (∀ {base h o : Nat} {H : Heap} {x : ByteArray}, storeA Try.prog base 9 (.pointer (some ⟨h, o, none⟩)) (.string x) H = writeA base ⟨h, o, none⟩ [(.string x)] H) ∧
    (Try.prog.underlying 22 = some (.slice 24)) ∧
    (∀ {h o : Nat} {H : Heap}, loadA Try.prog 22 (.pointer (some ⟨h, o, none⟩)) H = (hget H h).bind fun b => b.cells[o]?) ∧
    (∀ {base h o : Nat} {H : Heap} {x : Option Addr} {l c : Nat}, storeA Try.prog base 22 (.pointer (some ⟨h, o, none⟩)) (.slice x l c) H = writeA base ⟨h, o, none⟩ [(.slice x l c)] H) ∧
    (zeroA Try.prog 22 = some (.slice none 0 0)) ∧
    (∀ {h o l c : Nat} {k : IntKind} {i : Int}, indexAtA Try.prog 22 (.slice (some ⟨h, o, none⟩) l c) (.int k i) = if 0 ≤ i ∧ i < l then some (.pointer (some ⟨h, o + i.toNat * 4, none⟩)) else none) ∧
    (∀ {h o : Nat} {H : Heap}, loadA Try.prog 24 (.pointer (some ⟨h, o, none⟩)) H = (readA H ⟨h, o, none⟩ 4).map fun cs => .agg cs.toArray) ∧
    (∀ {base h o : Nat} {H : Heap} {x0 x1 x2 x3 : Value}, storeA Try.prog base 24 (.pointer (some ⟨h, o, none⟩)) (.agg #[x0, x1, x2, x3]) H = writeA base ⟨h, o, none⟩ [x0, x1, x2, x3] H) ∧
    (∀ {h o : Nat}, fieldAtA Try.prog 24 (.pointer (some ⟨h, o, none⟩)) 0 = some (.pointer (some ⟨h, o + 0, none⟩))) ∧
    (∀ {h o : Nat}, fieldAtA Try.prog 24 (.pointer (some ⟨h, o, none⟩)) 1 = some (.pointer (some ⟨h, o + 1, none⟩))) ∧
    (∀ {h o : Nat}, fieldAtA Try.prog 24 (.pointer (some ⟨h, o, none⟩)) 2 = some (.pointer (some ⟨h, o + 2, none⟩))) ∧
    (∀ {h o : Nat}, fieldAtA Try.prog 24 (.pointer (some ⟨h, o, none⟩)) 3 = some (.pointer (some ⟨h, o + 3, none⟩))) ∧
    (Try.prog.underlying 25 = some (.slice 51)) ∧
    (∀ {h o : Nat} {H : Heap}, loadA Try.prog 25 (.pointer (some ⟨h, o, none⟩)) H = (hget H h).bind fun b => b.cells[o]?) ∧
    (∀ {base h o : Nat} {H : Heap} {x : Option Addr} {l c : Nat}, storeA Try.prog base 25 (.pointer (some ⟨h, o, none⟩)) (.slice x l c) H = writeA base ⟨h, o, none⟩ [(.slice x l c)] H) ∧
    (zeroA Try.prog 25 = some (.slice none 0 0)) ∧
    (∀ {h o l c : Nat} {k : IntKind} {i : Int}, indexAtA Try.prog 25 (.slice (some ⟨h, o, none⟩) l c) (.int k i) = if 0 ≤ i ∧ i < l then some (.pointer (some ⟨h, o + i.toNat * 5, none⟩)) else none) ∧
    (Try.prog.underlying 29 = some (.slice 31)) ∧
    (∀ {h o : Nat} {H : Heap}, loadA Try.prog 29 (.pointer (some ⟨h, o, none⟩)) H = (hget H h).bind fun b => b.cells[o]?) ∧
    (∀ {base h o : Nat} {H : Heap} {x : Option Addr} {l c : Nat}, storeA Try.prog base 29 (.pointer (some ⟨h, o, none⟩)) (.slice x l c) H = writeA base ⟨h, o, none⟩ [(.slice x l c)] H) ∧
    (zeroA Try.prog 29 = some (.slice none 0 0)) ∧
    (∀ {h o l c : Nat} {k : IntKind} {i : Int}, indexAtA Try.prog 29 (.slice (some ⟨h, o, none⟩) l c) (.int k i) = if 0 ≤ i ∧ i < l then some (.pointer (some ⟨h, o + i.toNat * 4, none⟩)) else none) ∧
    (∀ {h o : Nat} {H : Heap}, loadA Try.prog 31 (.pointer (some ⟨h, o, none⟩)) H = (readA H ⟨h, o, none⟩ 4).map fun cs => .agg cs.toArray) ∧
    (∀ {base h o : Nat} {H : Heap} {x0 x1 x2 x3 : Value}, storeA Try.prog base 31 (.pointer (some ⟨h, o, none⟩)) (.agg #[x0, x1, x2, x3]) H = writeA base ⟨h, o, none⟩ [x0, x1, x2, x3] H) ∧
    (∀ {h o : Nat}, fieldAtA Try.prog 31 (.pointer (some ⟨h, o, none⟩)) 0 = some (.pointer (some ⟨h, o + 0, none⟩))) ∧
    (∀ {h o : Nat}, fieldAtA Try.prog 31 (.pointer (some ⟨h, o, none⟩)) 1 = some (.pointer (some ⟨h, o + 1, none⟩))) ∧
    (∀ {h o : Nat}, fieldAtA Try.prog 31 (.pointer (some ⟨h, o, none⟩)) 2 = some (.pointer (some ⟨h, o + 2, none⟩))) ∧
    (∀ {h o : Nat}, fieldAtA Try.prog 31 (.pointer (some ⟨h, o, none⟩)) 3 = some (.pointer (some ⟨h, o + 3, none⟩))) ∧
    (Try.prog.underlying 37 = some (.slice 74)) ∧
    (∀ {h o : Nat} {H : Heap}, loadA Try.prog 37 (.pointer (some ⟨h, o, none⟩)) H = (hget H h).bind fun b => b.cells[o]?) ∧
    (∀ {base h o : Nat} {H : Heap} {x : Option Addr} {l c : Nat}, storeA Try.prog base 37 (.pointer (some ⟨h, o, none⟩)) (.slice x l c) H = writeA base ⟨h, o, none⟩ [(.slice x l c)] H) ∧
    (zeroA Try.prog 37 = some (.slice none 0 0)) ∧
    (∀ {h o l c : Nat} {k : IntKind} {i : Int}, indexAtA Try.prog 37 (.slice (some ⟨h, o, none⟩) l c) (.int k i) = if 0 ≤ i ∧ i < l then some (.pointer (some ⟨h, o + i.toNat * 5, none⟩)) else none) ∧
    (Try.prog.underlying 43 = some (.slice 2)) ∧
    (∀ {h o : Nat} {H : Heap}, loadA Try.prog 43 (.pointer (some ⟨h, o, none⟩)) H = (hget H h).bind fun b => b.cells[o]?) ∧
    (∀ {base h o : Nat} {H : Heap} {x : Option Addr} {l c : Nat}, storeA Try.prog base 43 (.pointer (some ⟨h, o, none⟩)) (.slice x l c) H = writeA base ⟨h, o, none⟩ [(.slice x l c)] H) ∧
    (zeroA Try.prog 43 = some (.slice none 0 0)) ∧
    (∀ {h o l c : Nat} {k : IntKind} {i : Int}, indexAtA Try.prog 43 (.slice (some ⟨h, o, none⟩) l c) (.int k i) = if 0 ≤ i ∧ i < l then some (.pointer (some ⟨h, o + i.toNat * 1, none⟩)) else none) ∧
    (Try.prog.underlying 44 = some (.int .u16)) ∧
    (∀ {h o : Nat} {H : Heap}, loadA Try.prog 44 (.pointer (some ⟨h, o, none⟩)) H = (hget H h).bind fun b => b.cells[o]?) ∧
    (∀ {base h o : Nat} {H : Heap} {k : IntKind} {x : Int}, storeA Try.prog base 44 (.pointer (some ⟨h, o, none⟩)) (.int k x) H = writeA base ⟨h, o, none⟩ [(.int k x)] H) ∧
    (zeroA Try.prog 44 = some (.int .u16 0)) ∧
    (Try.prog.underlying 45 = some (.slice 9)) ∧
    (∀ {h o : Nat} {H : Heap}, loadA Try.prog 45 (.pointer (some ⟨h, o, none⟩)) H = (hget H h).bind fun b => b.cells[o]?) ∧
    (∀ {base h o : Nat} {H : Heap} {x : Option Addr} {l c : Nat}, storeA Try.prog base 45 (.pointer (some ⟨h, o, none⟩)) (.slice x l c) H = writeA base ⟨h, o, none⟩ [(.slice x l c)] H) ∧
    (∀ {h o l c : Nat} {k : IntKind} {i : Int}, indexAtA Try.prog 45 (.slice (some ⟨h, o, none⟩) l c) (.int k i) = if 0 ≤ i ∧ i < l then some (.pointer (some ⟨h, o + i.toNat * 1, none⟩)) else none) ∧
    (Try.prog.underlying 47 = some (.int .u64)) ∧
    (∀ {h o : Nat} {H : Heap}, loadA Try.prog 47 (.pointer (some ⟨h, o, none⟩)) H = (hget H h).bind fun b => b.cells[o]?) ∧
    (∀ {base h o : Nat} {H : Heap} {k : IntKind} {x : Int}, storeA Try.prog base 47 (.pointer (some ⟨h, o, none⟩)) (.int k x) H = writeA base ⟨h, o, none⟩ [(.int k x)] H) ∧
    (zeroA Try.prog 47 = some (.int .u64 0)) ∧
    (∀ {h o : Nat} {H : Heap}, loadA Try.prog 49 (.pointer (some ⟨h, o, none⟩)) H = (readA H ⟨h, o, none⟩ 4).map fun cs => .agg cs.toArray) ∧
    (∀ {base h o : Nat} {H : Heap} {x0 x1 x2 x3 : Value}, storeA Try.prog base 49 (.pointer (some ⟨h, o, none⟩)) (.agg #[x0, x1, x2, x3]) H = writeA base ⟨h, o, none⟩ [x0, x1, x2, x3] H) ∧
    (zeroA Try.prog 49 = some (.agg #[.int .i64 0, .int .i64 0, .string ⟨#[]⟩, .slice none 0 0])) ∧
    (∀ {h o : Nat}, fieldAtA Try.prog 49 (.pointer (some ⟨h, o, none⟩)) 0 = some (.pointer (some ⟨h, o + 0, none⟩))) ∧
    (∀ {h o : Nat}, fieldAtA Try.prog 49 (.pointer (some ⟨h, o, none⟩)) 1 = some (.pointer (some ⟨h, o + 1, none⟩))) ∧
    (∀ {h o : Nat}, fieldAtA Try.prog 49 (.pointer (some ⟨h, o, none⟩)) 2 = some (.pointer (some ⟨h, o + 2, none⟩))) ∧
    (∀ {h o : Nat}, fieldAtA Try.prog 49 (.pointer (some ⟨h, o, none⟩)) 3 = some (.pointer (some ⟨h, o + 3, none⟩))) ∧
    (∀ {h o : Nat} {H : Heap}, loadA Try.prog 51 (.pointer (some ⟨h, o, none⟩)) H = (readA H ⟨h, o, none⟩ 5).map fun cs => .agg cs.toArray) ∧
    (∀ {base h o : Nat} {H : Heap} {x0 x1 x2 x3 x4 : Value}, storeA Try.prog base 51 (.pointer (some ⟨h, o, none⟩)) (.agg #[x0, x1, x2, x3, x4]) H = writeA base ⟨h, o, none⟩ [x0, x1, x2, x3, x4] H) ∧
    (∀ {h o : Nat}, fieldAtA Try.prog 51 (.pointer (some ⟨h, o, none⟩)) 0 = some (.pointer (some ⟨h, o + 0, none⟩))) ∧
    (∀ {h o : Nat}, fieldAtA Try.prog 51 (.pointer (some ⟨h, o, none⟩)) 1 = some (.pointer (some ⟨h, o + 1, none⟩))) ∧
    (∀ {h o : Nat} {H : Heap}, loadA Try.prog 57 (.pointer (some ⟨h, o, none⟩)) H = (readA H ⟨h, o, none⟩ 4).map fun cs => .agg cs.toArray) ∧
    (∀ {base h o : Nat} {H : Heap} {x0 x1 x2 x3 : Value}, storeA Try.prog base 57 (.pointer (some ⟨h, o, none⟩)) (.agg #[x0, x1, x2, x3]) H = writeA base ⟨h, o, none⟩ [x0, x1, x2, x3] H) ∧
    (zeroA Try.prog 57 = some (.agg #[.int .i64 0, .int .i64 0, .int .i64 0, .string ⟨#[]⟩])) ∧
    (∀ {h o : Nat}, fieldAtA Try.prog 57 (.pointer (some ⟨h, o, none⟩)) 0 = some (.pointer (some ⟨h, o + 0, none⟩))) ∧
    (∀ {h o : Nat}, fieldAtA Try.prog 57 (.pointer (some ⟨h, o, none⟩)) 1 = some (.pointer (some ⟨h, o + 1, none⟩))) ∧
    (∀ {h o : Nat}, fieldAtA Try.prog 57 (.pointer (some ⟨h, o, none⟩)) 2 = some (.pointer (some ⟨h, o + 2, none⟩))) ∧
    (∀ {h o : Nat}, fieldAtA Try.prog 57 (.pointer (some ⟨h, o, none⟩)) 3 = some (.pointer (some ⟨h, o + 3, none⟩))) ∧
    (∀ {h o : Nat} {H : Heap}, loadA Try.prog 59 (.pointer (some ⟨h, o, none⟩)) H = (readA H ⟨h, o, none⟩ 6).map fun cs => .agg cs.toArray) ∧
    (∀ {base h o : Nat} {H : Heap} {x0 x1 x2 x3 x4 x5 : Value}, storeA Try.prog base 59 (.pointer (some ⟨h, o, none⟩)) (.agg #[x0, x1, x2, x3, x4, x5]) H = writeA base ⟨h, o, none⟩ [x0, x1, x2, x3, x4, x5] H) ∧
    (zeroA Try.prog 59 = some (.agg #[.string ⟨#[]⟩, .int .i64 0, .int .i64 0, .int .i64 0, .string ⟨#[]⟩, .slice none 0 0])) ∧
    (∀ {h o : Nat}, fieldAtA Try.prog 59 (.pointer (some ⟨h, o, none⟩)) 0 = some (.pointer (some ⟨h, o + 0, none⟩))) ∧
    (∀ {h o : Nat}, fieldAtA Try.prog 59 (.pointer (some ⟨h, o, none⟩)) 1 = some (.pointer (some ⟨h, o + 1, none⟩))) ∧
    (∀ {h o : Nat}, fieldAtA Try.prog 59 (.pointer (some ⟨h, o, none⟩)) 2 = some (.pointer (some ⟨h, o + 5, none⟩))) ∧
    (∀ {h o : Nat} {H : Heap}, loadA Try.prog 61 (.pointer (some ⟨h, o, none⟩)) H = (readA H ⟨h, o, none⟩ 2).map fun cs => .agg cs.toArray) ∧
    (∀ {base h o : Nat} {H : Heap} {x0 x1 : Value}, storeA Try.prog base 61 (.pointer (some ⟨h, o, none⟩)) (.agg #[x0, x1]) H = writeA base ⟨h, o, none⟩ [x0, x1] H) ∧
    (∀ {h o : Nat}, fieldAtA Try.prog 61 (.pointer (some ⟨h, o, none⟩)) 0 = some (.pointer (some ⟨h, o + 0, none⟩))) ∧
    (∀ {h o : Nat}, fieldAtA Try.prog 61 (.pointer (some ⟨h, o, none⟩)) 1 = some (.pointer (some ⟨h, o + 1, none⟩))) ∧
    (Try.prog.underlying 63 = some (.slice 61)) ∧
    (∀ {h o : Nat} {H : Heap}, loadA Try.prog 63 (.pointer (some ⟨h, o, none⟩)) H = (hget H h).bind fun b => b.cells[o]?) ∧
    (∀ {base h o : Nat} {H : Heap} {x : Option Addr} {l c : Nat}, storeA Try.prog base 63 (.pointer (some ⟨h, o, none⟩)) (.slice x l c) H = writeA base ⟨h, o, none⟩ [(.slice x l c)] H) ∧
    (zeroA Try.prog 63 = some (.slice none 0 0)) ∧
    (∀ {h o l c : Nat} {k : IntKind} {i : Int}, indexAtA Try.prog 63 (.slice (some ⟨h, o, none⟩) l c) (.int k i) = if 0 ≤ i ∧ i < l then some (.pointer (some ⟨h, o + i.toNat * 2, none⟩)) else none) ∧
    (∀ {h o : Nat} {H : Heap}, loadA Try.prog 68 (.pointer (some ⟨h, o, none⟩)) H = (readA H ⟨h, o, none⟩ 4).map fun cs => .agg cs.toArray) ∧
    (∀ {base h o : Nat} {H : Heap} {x0 x1 x2 x3 : Value}, storeA Try.prog base 68 (.pointer (some ⟨h, o, none⟩)) (.agg #[x0, x1, x2, x3]) H = writeA base ⟨h, o, none⟩ [x0, x1, x2, x3] H) ∧
    (zeroA Try.prog 68 = some (.agg #[.int .i64 0, .int .i64 0, .string ⟨#[]⟩, .slice none 0 0])) ∧
    (∀ {h o : Nat}, fieldAtA Try.prog 68 (.pointer (some ⟨h, o, none⟩)) 0 = some (.pointer (some ⟨h, o + 0, none⟩))) ∧
    (∀ {h o : Nat}, fieldAtA Try.prog 68 (.pointer (some ⟨h, o, none⟩)) 1 = some (.pointer (some ⟨h, o + 1, none⟩))) ∧
    (∀ {h o : Nat}, fieldAtA Try.prog 68 (.pointer (some ⟨h, o, none⟩)) 2 = some (.pointer (some ⟨h, o + 2, none⟩))) ∧
    (∀ {h o : Nat}, fieldAtA Try.prog 68 (.pointer (some ⟨h, o, none⟩)) 3 = some (.pointer (some ⟨h, o + 3, none⟩))) ∧
    (∀ {h o : Nat} {H : Heap}, loadA Try.prog 74 (.pointer (some ⟨h, o, none⟩)) H = (readA H ⟨h, o, none⟩ 5).map fun cs => .agg cs.toArray) ∧
    (∀ {base h o : Nat} {H : Heap} {x0 x1 x2 x3 x4 : Value}, storeA Try.prog base 74 (.pointer (some ⟨h, o, none⟩)) (.agg #[x0, x1, x2, x3, x4]) H = writeA base ⟨h, o, none⟩ [x0, x1, x2, x3, x4] H) ∧
    (∀ {h o : Nat}, fieldAtA Try.prog 74 (.pointer (some ⟨h, o, none⟩)) 0 = some (.pointer (some ⟨h, o + 0, none⟩))) ∧
    (∀ {h o : Nat}, fieldAtA Try.prog 74 (.pointer (some ⟨h, o, none⟩)) 1 = some (.pointer (some ⟨h, o + 1, none⟩))) ∧
    (Try.prog.underlying 76 = some (.slice 45)) ∧
    (∀ {h o : Nat} {H : Heap}, loadA Try.prog 76 (.pointer (some ⟨h, o, none⟩)) H = (hget H h).bind fun b => b.cells[o]?) ∧
    (∀ {base h o : Nat} {H : Heap} {x : Option Addr} {l c : Nat}, storeA Try.prog base 76 (.pointer (some ⟨h, o, none⟩)) (.slice x l c) H = writeA base ⟨h, o, none⟩ [(.slice x l c)] H) ∧
    (zeroA Try.prog 76 = some (.slice none 0 0)) ∧
    (∀ {h o l c : Nat} {k : IntKind} {i : Int}, indexAtA Try.prog 76 (.slice (some ⟨h, o, none⟩) l c) (.int k i) = if 0 ≤ i ∧ i < l then some (.pointer (some ⟨h, o + i.toNat * 1, none⟩)) else none) ∧
    (Try.prog.underlying 96 = some (.int .u64)) ∧
    (∀ {h o : Nat} {H : Heap}, loadA Try.prog 96 (.pointer (some ⟨h, o, none⟩)) H = (hget H h).bind fun b => b.cells[o]?) ∧
    (∀ {base h o : Nat} {H : Heap} {k : IntKind} {x : Int}, storeA Try.prog base 96 (.pointer (some ⟨h, o, none⟩)) (.int k x) H = writeA base ⟨h, o, none⟩ [(.int k x)] H) ∧
    (zeroA Try.prog 96 = some (.int .u64 0)) :=
  ⟨by kernel_rfl,
   by intro H x0_0 x0_1 x0_2 x0_3 x1_0 x1_1 x1_2 x1_3; kernel_rfl,
   by kernel_rfl,
   by intro H x0_0 x0_1 x0_2 x0_3 x0_4; kernel_rfl,
   by intro H x0_0 x0_1 x0_2 x0_3 x0_4 x1_0 x1_1 x1_2 x1_3 x1_4; kernel_rfl,
   by kernel_rfl,
   by intro H x0_0 x0_1 x0_2 x0_3; kernel_rfl,
   by kernel_rfl,
   by intro H x0_0 x0_1 x0_2 x0_3 x0_4; kernel_rfl,
   by kernel_rfl,
   by intro H; kernel_rfl,
   by kernel_rfl,
   by intro H x0 h0; simp [buildSliceA, show Try.prog.underlying 45 = some (.slice 9) from by kernel_rfl, sz9, show zeroA Try.prog 9 = some (.string ⟨#[]⟩) from by kernel_rfl, scalarV, Instr.fill, h0, show (.string ⟨#[]⟩ : Value).cells = #[.string ⟨#[]⟩] from rfl],
   by kernel_rfl,
   by intro H x0_0 x0_1; kernel_rfl,
   by kernel_rfl,
   by intro H x0 h0; simp [buildSliceA, show Try.prog.underlying 76 = some (.slice 45) from by kernel_rfl, sz45, show zeroA Try.prog 45 = some (.slice none 0 0) from by kernel_rfl, scalarV, Instr.fill, h0, show (.slice none 0 0 : Value).cells = #[.slice none 0 0] from rfl],
   by kernel_rfl,
   by intro h o H; simp only [loadA, ag2, Option.bind_eq_bind, Option.bind_some, Bool.false_eq_true, if_false, Option.isSome_none],
   by intro base h o H k x; simp [storeA, sz2, Value.cells],
   by kernel_rfl,
   by intro h o H; simp only [loadA, ag3, Option.bind_eq_bind, Option.bind_some, Bool.false_eq_true, if_false, Option.isSome_none],
   by intro base h o H k x; simp [storeA, sz3, Value.cells],
   by kernel_rfl,
   by kernel_rfl,
   by intro h o H; simp only [loadA, ag4, Option.bind_eq_bind, Option.bind_some, Bool.false_eq_true, if_false, Option.isSome_none],
   by intro base h o H x; simp [storeA, sz4, Value.cells],
   by kernel_rfl,
   by kernel_rfl,
   by intro h o H; simp only [loadA, ag5, Option.bind_eq_bind, Option.bind_some, Bool.false_eq_true, if_false, Option.isSome_none],
   by intro base h o H k x; simp [storeA, sz5, Value.cells],
   by kernel_rfl,
   by kernel_rfl,
   by intro h o H; simp only [loadA, ag9, Option.bind_eq_bind, Option.bind_some, Bool.false_eq_true, if_false, Option.isSome_none],
   by intro base h o H x; simp [storeA, sz9, Value.cells],
   by kernel_rfl,
   by intro h o H; simp only [loadA, ag22, Option.bind_eq_bind, Option.bind_some, Bool.false_eq_true, if_false, Option.isSome_none],
   by intro base h o H x l c; simp [storeA, sz22, Value.cells],
   by kernel_rfl,
   by intro h o l c k i; simp [indexAtA, Try.underlying22, sz24],
   by intro h o H; simp only [loadA, ag24, sz24, Option.bind_eq_bind, Option.bind_some, if_true, Option.map_eq_bind]; rfl,
   by intro base h o H x0 x1 x2 x3; simp [storeA, sz24, Value.cells],
   by intro h o; simp [fieldAtA, Try.underlying24, sz9],
   by intro h o; simp [fieldAtA, Try.underlying24, sz9],
   by intro h o; simp [fieldAtA, Try.underlying24, sz2],
   by intro h o; simp [fieldAtA, Try.underlying24, sz22],
   by kernel_rfl,
   by intro h o H; simp only [loadA, ag25, Option.bind_eq_bind, Option.bind_some, Bool.false_eq_true, if_false, Option.isSome_none],
   by intro base h o H x l c; simp [storeA, sz25, Value.cells],
   by kernel_rfl,
   by intro h o l c k i; simp [indexAtA, Try.underlying25, sz51],
   by kernel_rfl,
   by intro h o H; simp only [loadA, ag29, Option.bind_eq_bind, Option.bind_some, Bool.false_eq_true, if_false, Option.isSome_none],
   by intro base h o H x l c; simp [storeA, sz29, Value.cells],
   by kernel_rfl,
   by intro h o l c k i; simp [indexAtA, Try.underlying29, sz31],
   by intro h o H; simp only [loadA, ag31, sz31, Option.bind_eq_bind, Option.bind_some, if_true, Option.map_eq_bind]; rfl,
   by intro base h o H x0 x1 x2 x3; simp [storeA, sz31, Value.cells],
   by intro h o; simp [fieldAtA, Try.underlying31, sz9],
   by intro h o; simp [fieldAtA, Try.underlying31, sz9],
   by intro h o; simp [fieldAtA, Try.underlying31, sz2],
   by intro h o; simp [fieldAtA, Try.underlying31, sz29],
   by kernel_rfl,
   by intro h o H; simp only [loadA, ag37, Option.bind_eq_bind, Option.bind_some, Bool.false_eq_true, if_false, Option.isSome_none],
   by intro base h o H x l c; simp [storeA, sz37, Value.cells],
   by kernel_rfl,
   by intro h o l c k i; simp [indexAtA, Try.underlying37, sz74],
   by kernel_rfl,
   by intro h o H; simp only [loadA, ag43, Option.bind_eq_bind, Option.bind_some, Bool.false_eq_true, if_false, Option.isSome_none],
   by intro base h o H x l c; simp [storeA, sz43, Value.cells],
   by kernel_rfl,
   by intro h o l c k i; simp [indexAtA, Try.underlying43, sz2],
   by kernel_rfl,
   by intro h o H; simp only [loadA, ag44, Option.bind_eq_bind, Option.bind_some, Bool.false_eq_true, if_false, Option.isSome_none],
   by intro base h o H k x; simp [storeA, sz44, Value.cells],
   by kernel_rfl,
   by kernel_rfl,
   by intro h o H; simp only [loadA, ag45, Option.bind_eq_bind, Option.bind_some, Bool.false_eq_true, if_false, Option.isSome_none],
   by intro base h o H x l c; simp [storeA, sz45, Value.cells],
   by intro h o l c k i; simp [indexAtA, Try.underlying45, sz9],
   by kernel_rfl,
   by intro h o H; simp only [loadA, ag47, Option.bind_eq_bind, Option.bind_some, Bool.false_eq_true, if_false, Option.isSome_none],
   by intro base h o H k x; simp [storeA, sz47, Value.cells],
   by kernel_rfl,
   by intro h o H; simp only [loadA, ag49, sz49, Option.bind_eq_bind, Option.bind_some, if_true, Option.map_eq_bind]; rfl,
   by intro base h o H x0 x1 x2 x3; simp [storeA, sz49, Value.cells],
   by kernel_rfl,
   by intro h o; simp [fieldAtA, Try.underlying49, sz3],
   by intro h o; simp [fieldAtA, Try.underlying49, sz2],
   by intro h o; simp [fieldAtA, Try.underlying49, sz9],
   by intro h o; simp [fieldAtA, Try.underlying49, sz43],
   by intro h o H; simp only [loadA, ag51, sz51, Option.bind_eq_bind, Option.bind_some, if_true, Option.map_eq_bind]; rfl,
   by intro base h o H x0 x1 x2 x3 x4; simp [storeA, sz51, Value.cells],
   by intro h o; simp [fieldAtA, Try.underlying51, sz9],
   by intro h o; simp [fieldAtA, Try.underlying51, sz49],
   by intro h o H; simp only [loadA, ag57, sz57, Option.bind_eq_bind, Option.bind_some, if_true, Option.map_eq_bind]; rfl,
   by intro base h o H x0 x1 x2 x3; simp [storeA, sz57, Value.cells],
   by kernel_rfl,
   by intro h o; simp [fieldAtA, Try.underlying57, sz2],
   by intro h o; simp [fieldAtA, Try.underlying57, sz2],
   by intro h o; simp [fieldAtA, Try.underlying57, sz2],
   by intro h o; simp [fieldAtA, Try.underlying57, sz9],
   by intro h o H; simp only [loadA, ag59, sz59, Option.bind_eq_bind, Option.bind_some, if_true, Option.map_eq_bind]; rfl,
   by intro base h o H x0 x1 x2 x3 x4 x5; simp [storeA, sz59, Value.cells],
   by kernel_rfl,
   by intro h o; simp [fieldAtA, Try.underlying59, sz9],
   by intro h o; simp [fieldAtA, Try.underlying59, sz57],
   by intro h o; simp [fieldAtA, Try.underlying59, sz37],
   by intro h o H; simp only [loadA, ag61, sz61, Option.bind_eq_bind, Option.bind_some, if_true, Option.map_eq_bind]; rfl,
   by intro base h o H x0 x1; simp [storeA, sz61, Value.cells],
   by intro h o; simp [fieldAtA, Try.underlying61, sz2],
   by intro h o; simp [fieldAtA, Try.underlying61, sz4],
   by kernel_rfl,
   by intro h o H; simp only [loadA, ag63, Option.bind_eq_bind, Option.bind_some, Bool.false_eq_true, if_false, Option.isSome_none],
   by intro base h o H x l c; simp [storeA, sz63, Value.cells],
   by kernel_rfl,
   by intro h o l c k i; simp [indexAtA, Try.underlying63, sz61],
   by intro h o H; simp only [loadA, ag68, sz68, Option.bind_eq_bind, Option.bind_some, if_true, Option.map_eq_bind]; rfl,
   by intro base h o H x0 x1 x2 x3; simp [storeA, sz68, Value.cells],
   by kernel_rfl,
   by intro h o; simp [fieldAtA, Try.underlying68, sz3],
   by intro h o; simp [fieldAtA, Try.underlying68, sz2],
   by intro h o; simp [fieldAtA, Try.underlying68, sz9],
   by intro h o; simp [fieldAtA, Try.underlying68, sz43],
   by intro h o H; simp only [loadA, ag74, sz74, Option.bind_eq_bind, Option.bind_some, if_true, Option.map_eq_bind]; rfl,
   by intro base h o H x0 x1 x2 x3 x4; simp [storeA, sz74, Value.cells],
   by intro h o; simp [fieldAtA, Try.underlying74, sz9],
   by intro h o; simp [fieldAtA, Try.underlying74, sz68],
   by kernel_rfl,
   by intro h o H; simp only [loadA, ag76, Option.bind_eq_bind, Option.bind_some, Bool.false_eq_true, if_false, Option.isSome_none],
   by intro base h o H x l c; simp [storeA, sz76, Value.cells],
   by kernel_rfl,
   by intro h o l c k i; simp [indexAtA, Try.underlying76, sz45],
   by kernel_rfl,
   by intro h o H; simp only [loadA, ag96, Option.bind_eq_bind, Option.bind_some, Bool.false_eq_true, if_false, Option.isSome_none],
   by intro base h o H k x; simp [storeA, sz96, Value.cells],
   by kernel_rfl⟩
end Go.Proofs.AmT1
