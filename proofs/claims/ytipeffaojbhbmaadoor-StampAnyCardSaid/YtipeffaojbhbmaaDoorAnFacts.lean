/- Facts on the types of the program, for the abstract machine. -/
import Derived.Test.YtipeffaojbhbmaaDoorProg
import Derived.Test.YtipeffaojbhbmaaDoorAmKx
import Derived.KernelRfl
set_option linter.unusedSimpArgs false
set_option linter.unusedVariables false
namespace Go.Proofs.AnT
open Go Go.AM
theorem sz9 : sizeA Tryd.prog 9 = some 1 := by kernel_rfl
theorem sz3 : sizeA Tryd.prog 3 = some 1 := by kernel_rfl
theorem ag3 : isAggA Tryd.prog 3 = some false := by kernel_rfl
theorem sz5 : sizeA Tryd.prog 5 = some 1 := by kernel_rfl
theorem ag5 : isAggA Tryd.prog 5 = some false := by kernel_rfl
theorem ag9 : isAggA Tryd.prog 9 = some false := by kernel_rfl
theorem sz51 : sizeA Tryd.prog 51 = some 1 := by kernel_rfl
theorem ag51 : isAggA Tryd.prog 51 = some false := by kernel_rfl
theorem F :
    (zeroA Tryd.prog 9 = some (.string ⟨#[]⟩)) ∧
    (∀ {H : Heap} {x0 : Value} (h0 : x0.cells = #[x0]), buildSliceA Tryd.prog 51 1 [(0, x0)] H = some (.slice (some (atNew H)) 1 1, newA H [x0] 1)) ∧
    (Tryd.prog.underlying 3 = some (.int .i64)) ∧
    (∀ {h o : Nat} {H : Heap}, loadA Tryd.prog 3 (.pointer (some ⟨h, o, none⟩)) H = (hget H h).bind fun b => b.cells[o]?) ∧
    (∀ {base h o : Nat} {H : Heap} {k : IntKind} {x : Int}, storeA Tryd.prog base 3 (.pointer (some ⟨h, o, none⟩)) (.int k x) H = writeA base ⟨h, o, none⟩ [(.int k x)] H) ∧
    (zeroA Tryd.prog 3 = some (.int .i64 0)) ∧
    (Tryd.prog.underlying 5 = some (.int .u8)) ∧
    (∀ {h o : Nat} {H : Heap}, loadA Tryd.prog 5 (.pointer (some ⟨h, o, none⟩)) H = (hget H h).bind fun b => b.cells[o]?) ∧
    (∀ {base h o : Nat} {H : Heap} {k : IntKind} {x : Int}, storeA Tryd.prog base 5 (.pointer (some ⟨h, o, none⟩)) (.int k x) H = writeA base ⟨h, o, none⟩ [(.int k x)] H) ∧
    (zeroA Tryd.prog 5 = some (.int .u8 0)) ∧
    (Tryd.prog.underlying 9 = some (.string)) ∧
    (∀ {h o : Nat} {H : Heap}, loadA Tryd.prog 9 (.pointer (some ⟨h, o, none⟩)) H = (hget H h).bind fun b => b.cells[o]?) ∧
    (∀ {base h o : Nat} {H : Heap} {x : ByteArray}, storeA Tryd.prog base 9 (.pointer (some ⟨h, o, none⟩)) (.string x) H = writeA base ⟨h, o, none⟩ [(.string x)] H) ∧
    (Tryd.prog.underlying 51 = some (.slice 9)) ∧
    (∀ {h o : Nat} {H : Heap}, loadA Tryd.prog 51 (.pointer (some ⟨h, o, none⟩)) H = (hget H h).bind fun b => b.cells[o]?) ∧
    (∀ {base h o : Nat} {H : Heap} {x : Option Addr} {l c : Nat}, storeA Tryd.prog base 51 (.pointer (some ⟨h, o, none⟩)) (.slice x l c) H = writeA base ⟨h, o, none⟩ [(.slice x l c)] H) ∧
    (zeroA Tryd.prog 51 = some (.slice none 0 0)) ∧
    (∀ {h o l c : Nat} {k : IntKind} {i : Int}, indexAtA Tryd.prog 51 (.slice (some ⟨h, o, none⟩) l c) (.int k i) = if 0 ≤ i ∧ i < l then some (.pointer (some ⟨h, o + i.toNat * 1, none⟩)) else none) :=
  ⟨by kernel_rfl,
   by intro H x0 h0; simp [buildSliceA, show Tryd.prog.underlying 51 = some (.slice 9) from by kernel_rfl, sz9, show zeroA Tryd.prog 9 = some (.string ⟨#[]⟩) from by kernel_rfl, scalarV, Instr.fill, h0, show (.string ⟨#[]⟩ : Value).cells = #[.string ⟨#[]⟩] from rfl],
   by kernel_rfl,
   by intro h o H; simp only [loadA, ag3, Option.bind_eq_bind, Option.bind_some, Bool.false_eq_true, if_false, Option.isSome_none],
   by intro base h o H k x; simp [storeA, sz3, Value.cells],
   by kernel_rfl,
   by kernel_rfl,
   by intro h o H; simp only [loadA, ag5, Option.bind_eq_bind, Option.bind_some, Bool.false_eq_true, if_false, Option.isSome_none],
   by intro base h o H k x; simp [storeA, sz5, Value.cells],
   by kernel_rfl,
   by kernel_rfl,
   by intro h o H; simp only [loadA, ag9, Option.bind_eq_bind, Option.bind_some, Bool.false_eq_true, if_false, Option.isSome_none],
   by intro base h o H x; simp [storeA, sz9, Value.cells],
   by kernel_rfl,
   by intro h o H; simp only [loadA, ag51, Option.bind_eq_bind, Option.bind_some, Bool.false_eq_true, if_false, Option.isSome_none],
   by intro base h o H x l c; simp [storeA, sz51, Value.cells],
   by kernel_rfl,
   by intro h o l c k i; simp [indexAtA, Tryd.underlying51, sz9]⟩
end Go.Proofs.AnT
