/- Facts on the types of the program, for the abstract machine. -/
import Derived.Test.YtpdnaoahghfaoaaGreatDoorProg
import Derived.Test.YtpdnaoahghfaoaaGreatDoorAmKx
import Derived.KernelRfl
set_option linter.unusedSimpArgs false
set_option linter.unusedVariables false
namespace Go.Proofs.AwT
open Go Go.AM
theorem sz9 : sizeA Tryz.prog 9 = some 1 := by kernel_rfl
theorem sz3 : sizeA Tryz.prog 3 = some 1 := by kernel_rfl
theorem ag3 : isAggA Tryz.prog 3 = some false := by kernel_rfl
theorem sz5 : sizeA Tryz.prog 5 = some 1 := by kernel_rfl
theorem ag5 : isAggA Tryz.prog 5 = some false := by kernel_rfl
theorem ag9 : isAggA Tryz.prog 9 = some false := by kernel_rfl
theorem sz100 : sizeA Tryz.prog 100 = some 1 := by kernel_rfl
theorem ag100 : isAggA Tryz.prog 100 = some false := by kernel_rfl
theorem F :
    (zeroA Tryz.prog 9 = some (.string ⟨#[]⟩)) ∧
    (∀ {H : Heap} {x0 : Value} (h0 : x0.cells = #[x0]), buildSliceA Tryz.prog 100 1 [(0, x0)] H = some (.slice (some (atNew H)) 1 1, newA H [x0] 1)) ∧
    (Tryz.prog.underlying 3 = some (.int .i64)) ∧
    (∀ {h o : Nat} {H : Heap}, loadA Tryz.prog 3 (.pointer (some ⟨h, o, none⟩)) H = (hget H h).bind fun b => b.cells[o]?) ∧
    (∀ {base h o : Nat} {H : Heap} {k : IntKind} {x : Int}, storeA Tryz.prog base 3 (.pointer (some ⟨h, o, none⟩)) (.int k x) H = writeA base ⟨h, o, none⟩ [(.int k x)] H) ∧
    (zeroA Tryz.prog 3 = some (.int .i64 0)) ∧
    (Tryz.prog.underlying 5 = some (.int .u8)) ∧
    (∀ {h o : Nat} {H : Heap}, loadA Tryz.prog 5 (.pointer (some ⟨h, o, none⟩)) H = (hget H h).bind fun b => b.cells[o]?) ∧
    (∀ {base h o : Nat} {H : Heap} {k : IntKind} {x : Int}, storeA Tryz.prog base 5 (.pointer (some ⟨h, o, none⟩)) (.int k x) H = writeA base ⟨h, o, none⟩ [(.int k x)] H) ∧
    (zeroA Tryz.prog 5 = some (.int .u8 0)) ∧
    (Tryz.prog.underlying 9 = some (.string)) ∧
    (∀ {h o : Nat} {H : Heap}, loadA Tryz.prog 9 (.pointer (some ⟨h, o, none⟩)) H = (hget H h).bind fun b => b.cells[o]?) ∧
    (∀ {base h o : Nat} {H : Heap} {x : ByteArray}, storeA Tryz.prog base 9 (.pointer (some ⟨h, o, none⟩)) (.string x) H = writeA base ⟨h, o, none⟩ [(.string x)] H) ∧
    (Tryz.prog.underlying 100 = some (.slice 9)) ∧
    (∀ {h o : Nat} {H : Heap}, loadA Tryz.prog 100 (.pointer (some ⟨h, o, none⟩)) H = (hget H h).bind fun b => b.cells[o]?) ∧
    (∀ {base h o : Nat} {H : Heap} {x : Option Addr} {l c : Nat}, storeA Tryz.prog base 100 (.pointer (some ⟨h, o, none⟩)) (.slice x l c) H = writeA base ⟨h, o, none⟩ [(.slice x l c)] H) ∧
    (zeroA Tryz.prog 100 = some (.slice none 0 0)) ∧
    (∀ {h o l c : Nat} {k : IntKind} {i : Int}, indexAtA Tryz.prog 100 (.slice (some ⟨h, o, none⟩) l c) (.int k i) = if 0 ≤ i ∧ i < l then some (.pointer (some ⟨h, o + i.toNat * 1, none⟩)) else none) :=
  ⟨by kernel_rfl,
   by intro H x0 h0; simp [buildSliceA, show Tryz.prog.underlying 100 = some (.slice 9) from by kernel_rfl, sz9, show zeroA Tryz.prog 9 = some (.string ⟨#[]⟩) from by kernel_rfl, scalarV, Instr.fill, h0, show (.string ⟨#[]⟩ : Value).cells = #[.string ⟨#[]⟩] from rfl],
   by kernel_rfl,
   by intro h o H; simp only [loadA, ag3, Option.bind_eq_bind, Option.bind_some, Bool.false_eq_true, if_false, Option.isSome_none],
   by intro base h o H k x; simp [storeA, sz3, Value.cells],
   by kernel_rfl,
   by kernel_rfl,
   by intro h o H; simp only [loadA, ag5, Option.bind_eq_bind, Option.bind_some, Bool.false_eq_true, if_false, Option.isSome_none],
   by intro base h o H k x; simp [storeA, sz5, Value.cells],
   by kernel_rfl,
   by kernel_rfl,
   by intro h o H; simp only [loadA, ag9, Option.bind_eq_bind, Option.bind_some, Bool.false_eq_true, if_false, Option.isSome_none],
   by intro base h o H x; simp [storeA, sz9, Value.cells],
   by kernel_rfl,
   by intro h o H; simp only [loadA, ag100, Option.bind_eq_bind, Option.bind_some, Bool.false_eq_true, if_false, Option.isSome_none],
   by intro base h o H x l c; simp [storeA, sz100, Value.cells],
   by kernel_rfl,
   by intro h o l c k i; simp [indexAtA, Tryz.underlying100, sz9]⟩
end Go.Proofs.AwT
