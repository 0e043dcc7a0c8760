/- Facts on the types of the program: sizes, fields, places, zeros. -/
import Derived.Test.YtpdnaoahghfaoaaDoorProg
import Derived.Test.YtpdnaoahghfaoaaDoorDmWx
import Derived.KernelRfl
set_option linter.unusedSimpArgs false
set_option linter.unusedVariables false
namespace Go.Proofs.DlT
open Go Go.AM Go.DM
set_option maxRecDepth 100000
theorem dag2 : isAggA Tryd.prog 2 = some false := congrArg (Option.map _) Tryd.underlying2
theorem dag3 : isAggA Tryd.prog 3 = some false := congrArg (Option.map _) Tryd.underlying3
theorem dag5 : isAggA Tryd.prog 5 = some false := congrArg (Option.map _) Tryd.underlying5
theorem dag9 : isAggA Tryd.prog 9 = some false := congrArg (Option.map _) Tryd.underlying9
theorem dag23 : isAggA Tryd.prog 23 = some false := congrArg (Option.map _) Tryd.underlying23
theorem dag24 : isAggA Tryd.prog 24 = some false := congrArg (Option.map _) Tryd.underlying24
theorem dag27 : isAggA Tryd.prog 27 = some false := congrArg (Option.map _) Tryd.underlying27
theorem dag35 : isAggA Tryd.prog 35 = some true := congrArg (Option.map _) Tryd.underlying35
theorem dag36 : isAggA Tryd.prog 36 = some true := congrArg (Option.map _) Tryd.underlying36
theorem dag45 : isAggA Tryd.prog 45 = some false := congrArg (Option.map _) Tryd.underlying45
theorem dag47 : isAggA Tryd.prog 47 = some false := congrArg (Option.map _) Tryd.underlying47
theorem dag54 : isAggA Tryd.prog 54 = some false := congrArg (Option.map _) Tryd.underlying54
theorem dtys : (tyA Tryd.prog 2, tyA Tryd.prog 3, tyA Tryd.prog 5, tyA Tryd.prog 9, tyA Tryd.prog 23, tyA Tryd.prog 35, tyA Tryd.prog 24, tyA Tryd.prog 27, tyA Tryd.prog 36, tyA Tryd.prog 45, tyA Tryd.prog 47, tyA Tryd.prog 54, ()) = ((some 1, some 8, some (.int .i64 0), none), (some 1, some 8, some (.int .i64 0), none), (some 1, some 1, some (.int .u8 0), none), (some 1, some 16, some (.string ⟨#[]⟩), none), (some 1, some 24, some (.slice none 0 0), none), (some 4, some 40, some (.agg #[.int .i64 0, .string ⟨#[]⟩, .int .i64 0, .int .i64 0]), some [(0, 1), (1, 1), (2, 1), (3, 1)]), (some 1, some 8, some (.int .i64 0), none), (some 1, some 24, some (.slice none 0 0), none), (some 4, some 40, some (.agg #[.int .i64 0, .string ⟨#[]⟩, .int .i64 0, .int .i64 0]), some [(0, 1), (1, 1), (2, 1), (3, 1)]), (some 1, some 24, some (.slice none 0 0), none), (some 1, some 8, some (.int .u64 0), none), (some 1, some 16, some (.nilIface), none), ()) := by kernel_rfl
theorem dsz2 : sizeA Tryd.prog 2 = some 1 := congrArg (fun x => x.1.1) dtys
theorem dby2 : (Tryd.prog.info? 2).map (·.bytes) = some 8 := congrArg (fun x => x.1.2.1) dtys
theorem dze2 : zeroA Tryd.prog 2 = some (.int .i64 0) := congrArg (fun x => x.1.2.2.1) dtys
theorem dsz3 : sizeA Tryd.prog 3 = some 1 := congrArg (fun x => x.2.1.1) dtys
theorem dby3 : (Tryd.prog.info? 3).map (·.bytes) = some 8 := congrArg (fun x => x.2.1.2.1) dtys
theorem dze3 : zeroA Tryd.prog 3 = some (.int .i64 0) := congrArg (fun x => x.2.1.2.2.1) dtys
theorem dsz5 : sizeA Tryd.prog 5 = some 1 := congrArg (fun x => x.2.2.1.1) dtys
theorem dby5 : (Tryd.prog.info? 5).map (·.bytes) = some 1 := congrArg (fun x => x.2.2.1.2.1) dtys
theorem dze5 : zeroA Tryd.prog 5 = some (.int .u8 0) := congrArg (fun x => x.2.2.1.2.2.1) dtys
theorem dsz9 : sizeA Tryd.prog 9 = some 1 := congrArg (fun x => x.2.2.2.1.1) dtys
theorem dby9 : (Tryd.prog.info? 9).map (·.bytes) = some 16 := congrArg (fun x => x.2.2.2.1.2.1) dtys
theorem dze9 : zeroA Tryd.prog 9 = some (.string ⟨#[]⟩) := congrArg (fun x => x.2.2.2.1.2.2.1) dtys
theorem dsz23 : sizeA Tryd.prog 23 = some 1 := congrArg (fun x => x.2.2.2.2.1.1) dtys
theorem dby23 : (Tryd.prog.info? 23).map (·.bytes) = some 24 := congrArg (fun x => x.2.2.2.2.1.2.1) dtys
theorem dze23 : zeroA Tryd.prog 23 = some (.slice none 0 0) := congrArg (fun x => x.2.2.2.2.1.2.2.1) dtys
theorem dsz35 : sizeA Tryd.prog 35 = some 4 := congrArg (fun x => x.2.2.2.2.2.1.1) dtys
theorem dby35 : (Tryd.prog.info? 35).map (·.bytes) = some 40 := congrArg (fun x => x.2.2.2.2.2.1.2.1) dtys
theorem dze35 : zeroA Tryd.prog 35 = some (.agg #[.int .i64 0, .string ⟨#[]⟩, .int .i64 0, .int .i64 0]) := congrArg (fun x => x.2.2.2.2.2.1.2.2.1) dtys
theorem dpl35 : placesA Tryd.prog 35 = some [(0, 1), (1, 1), (2, 1), (3, 1)] := congrArg (fun x => x.2.2.2.2.2.1.2.2.2) dtys
theorem dsz24 : sizeA Tryd.prog 24 = some 1 := congrArg (fun x => x.2.2.2.2.2.2.1.1) dtys
theorem dby24 : (Tryd.prog.info? 24).map (·.bytes) = some 8 := congrArg (fun x => x.2.2.2.2.2.2.1.2.1) dtys
theorem dze24 : zeroA Tryd.prog 24 = some (.int .i64 0) := congrArg (fun x => x.2.2.2.2.2.2.1.2.2.1) dtys
theorem dsz27 : sizeA Tryd.prog 27 = some 1 := congrArg (fun x => x.2.2.2.2.2.2.2.1.1) dtys
theorem dby27 : (Tryd.prog.info? 27).map (·.bytes) = some 24 := congrArg (fun x => x.2.2.2.2.2.2.2.1.2.1) dtys
theorem dze27 : zeroA Tryd.prog 27 = some (.slice none 0 0) := congrArg (fun x => x.2.2.2.2.2.2.2.1.2.2.1) dtys
theorem dsz36 : sizeA Tryd.prog 36 = some 4 := congrArg (fun x => x.2.2.2.2.2.2.2.2.1.1) dtys
theorem dby36 : (Tryd.prog.info? 36).map (·.bytes) = some 40 := congrArg (fun x => x.2.2.2.2.2.2.2.2.1.2.1) dtys
theorem dze36 : zeroA Tryd.prog 36 = some (.agg #[.int .i64 0, .string ⟨#[]⟩, .int .i64 0, .int .i64 0]) := congrArg (fun x => x.2.2.2.2.2.2.2.2.1.2.2.1) dtys
theorem dpl36 : placesA Tryd.prog 36 = some [(0, 1), (1, 1), (2, 1), (3, 1)] := congrArg (fun x => x.2.2.2.2.2.2.2.2.1.2.2.2) dtys
theorem dsz45 : sizeA Tryd.prog 45 = some 1 := congrArg (fun x => x.2.2.2.2.2.2.2.2.2.1.1) dtys
theorem dby45 : (Tryd.prog.info? 45).map (·.bytes) = some 24 := congrArg (fun x => x.2.2.2.2.2.2.2.2.2.1.2.1) dtys
theorem dze45 : zeroA Tryd.prog 45 = some (.slice none 0 0) := congrArg (fun x => x.2.2.2.2.2.2.2.2.2.1.2.2.1) dtys
theorem dsz47 : sizeA Tryd.prog 47 = some 1 := congrArg (fun x => x.2.2.2.2.2.2.2.2.2.2.1.1) dtys
theorem dby47 : (Tryd.prog.info? 47).map (·.bytes) = some 8 := congrArg (fun x => x.2.2.2.2.2.2.2.2.2.2.1.2.1) dtys
theorem dze47 : zeroA Tryd.prog 47 = some (.int .u64 0) := congrArg (fun x => x.2.2.2.2.2.2.2.2.2.2.1.2.2.1) dtys
theorem dsz54 : sizeA Tryd.prog 54 = some 1 := congrArg (fun x => x.2.2.2.2.2.2.2.2.2.2.2.1.1) dtys
theorem dby54 : (Tryd.prog.info? 54).map (·.bytes) = some 16 := congrArg (fun x => x.2.2.2.2.2.2.2.2.2.2.2.1.2.1) dtys
theorem dze54 : zeroA Tryd.prog 54 = some (.nilIface) := congrArg (fun x => x.2.2.2.2.2.2.2.2.2.2.2.1.2.2.1) dtys
theorem del23 : ElemT Tryd.prog 23 35 4 40 := elemT_at Tryd.underlying23 dsz35 dby35 dze35 rfl
theorem del27 : ElemT Tryd.prog 27 36 4 40 := elemT_at Tryd.underlying27 dsz36 dby36 dze36 rfl
theorem del45 : ElemT Tryd.prog 45 9 1 16 := elemT_at Tryd.underlying45 dsz9 dby9 dze9 rfl
theorem dmx : Tryd.prog.follows .mixedOrders = true := by kernel_rfl
theorem fd2_0 : (Tryd.prog.underlying 2 = some (.int .i64)) := Tryd.underlying2
theorem fd2_1 : (∀ {x : D} {S : Mem}, loadD Tryd.prog 2 x S = (cellsAt x S).bind fun p => p.1[p.2]?) := ld_one dag2
theorem fd2_2 : (∀ {o off : Nat} {S : Mem} {v : D}, cellsD v = some [v] → D.one v = true → storeD Tryd.prog 2 (.ptr o off) v S = (objAt S o).bind fun cells => if off + 1 ≤ cells.length then some (S.set o (.obj (wr cells off [v]))) else none) := fun h1 h2 => st_cells dsz2 h1 rfl (by simp [h2])
theorem fd2_3 : (∀ {ρ : DEnv} {S : Mem}, opD Tryd.prog ρ (.alloc 2) S = some (.ptr S.length 0, S ++ [.obj [.int .i64 0]])) := al_cells dze2 (by simp [scalarV, Value.cells])
theorem fd2_4 : (∀ {S : Mem} {k : IntKind} {n : Int}, convD Tryd.prog 2 2 (.int k n) S = some (.int .i64 (IntKind.wrap .i64 n), S)) := conv_int Tryd.underlying2 Tryd.underlying2
theorem fd2_5 : (∀ {S : Mem} {k : IntKind} {n : Int}, convD Tryd.prog 3 2 (.int k n) S = some (.int .i64 (IntKind.wrap .i64 n), S)) := conv_int Tryd.underlying3 Tryd.underlying2
theorem fd2_6 : (∀ {S : Mem} {k : IntKind} {n : Int}, convD Tryd.prog 5 2 (.int k n) S = some (.int .i64 (IntKind.wrap .i64 n), S)) := conv_int Tryd.underlying5 Tryd.underlying2
theorem fd2_7 : (∀ {S : Mem} {k : IntKind} {n : Int}, convD Tryd.prog 24 2 (.int k n) S = some (.int .i64 (IntKind.wrap .i64 n), S)) := conv_int Tryd.underlying24 Tryd.underlying2
theorem fd2_8 : (∀ {S : Mem} {k : IntKind} {n : Int}, convD Tryd.prog 47 2 (.int k n) S = some (.int .i64 (IntKind.wrap .i64 n), S)) := conv_int Tryd.underlying47 Tryd.underlying2
theorem fd3_0 : (Tryd.prog.underlying 3 = some (.int .i64)) := Tryd.underlying3
theorem fd3_1 : (∀ {x : D} {S : Mem}, loadD Tryd.prog 3 x S = (cellsAt x S).bind fun p => p.1[p.2]?) := ld_one dag3
theorem fd3_2 : (∀ {o off : Nat} {S : Mem} {v : D}, cellsD v = some [v] → D.one v = true → storeD Tryd.prog 3 (.ptr o off) v S = (objAt S o).bind fun cells => if off + 1 ≤ cells.length then some (S.set o (.obj (wr cells off [v]))) else none) := fun h1 h2 => st_cells dsz3 h1 rfl (by simp [h2])
theorem fd3_3 : (∀ {ρ : DEnv} {S : Mem}, opD Tryd.prog ρ (.alloc 3) S = some (.ptr S.length 0, S ++ [.obj [.int .i64 0]])) := al_cells dze3 (by simp [scalarV, Value.cells])
theorem fd3_4 : (∀ {S : Mem} {k : IntKind} {n : Int}, convD Tryd.prog 2 3 (.int k n) S = some (.int .i64 (IntKind.wrap .i64 n), S)) := conv_int Tryd.underlying2 Tryd.underlying3
theorem fd3_5 : (∀ {S : Mem} {k : IntKind} {n : Int}, convD Tryd.prog 3 3 (.int k n) S = some (.int .i64 (IntKind.wrap .i64 n), S)) := conv_int Tryd.underlying3 Tryd.underlying3
theorem fd3_6 : (∀ {S : Mem} {k : IntKind} {n : Int}, convD Tryd.prog 5 3 (.int k n) S = some (.int .i64 (IntKind.wrap .i64 n), S)) := conv_int Tryd.underlying5 Tryd.underlying3
theorem fd3_7 : (∀ {S : Mem} {k : IntKind} {n : Int}, convD Tryd.prog 24 3 (.int k n) S = some (.int .i64 (IntKind.wrap .i64 n), S)) := conv_int Tryd.underlying24 Tryd.underlying3
theorem fd3_8 : (∀ {S : Mem} {k : IntKind} {n : Int}, convD Tryd.prog 47 3 (.int k n) S = some (.int .i64 (IntKind.wrap .i64 n), S)) := conv_int Tryd.underlying47 Tryd.underlying3
theorem fd5_0 : (Tryd.prog.underlying 5 = some (.int .u8)) := Tryd.underlying5
theorem fd5_1 : (∀ {x : D} {S : Mem}, loadD Tryd.prog 5 x S = (cellsAt x S).bind fun p => p.1[p.2]?) := ld_one dag5
theorem fd5_2 : (∀ {o off : Nat} {S : Mem} {v : D}, cellsD v = some [v] → D.one v = true → storeD Tryd.prog 5 (.ptr o off) v S = (objAt S o).bind fun cells => if off + 1 ≤ cells.length then some (S.set o (.obj (wr cells off [v]))) else none) := fun h1 h2 => st_cells dsz5 h1 rfl (by simp [h2])
theorem fd5_3 : (∀ {ρ : DEnv} {S : Mem}, opD Tryd.prog ρ (.alloc 5) S = some (.ptr S.length 0, S ++ [.obj [.int .u8 0]])) := al_cells dze5 (by simp [scalarV, Value.cells])
theorem fd5_4 : (∀ {S : Mem} {k : IntKind} {n : Int}, convD Tryd.prog 2 5 (.int k n) S = some (.int .u8 (IntKind.wrap .u8 n), S)) := conv_int Tryd.underlying2 Tryd.underlying5
theorem fd5_5 : (∀ {S : Mem} {k : IntKind} {n : Int}, convD Tryd.prog 3 5 (.int k n) S = some (.int .u8 (IntKind.wrap .u8 n), S)) := conv_int Tryd.underlying3 Tryd.underlying5
theorem fd5_6 : (∀ {S : Mem} {k : IntKind} {n : Int}, convD Tryd.prog 5 5 (.int k n) S = some (.int .u8 (IntKind.wrap .u8 n), S)) := conv_int Tryd.underlying5 Tryd.underlying5
theorem fd5_7 : (∀ {S : Mem} {k : IntKind} {n : Int}, convD Tryd.prog 24 5 (.int k n) S = some (.int .u8 (IntKind.wrap .u8 n), S)) := conv_int Tryd.underlying24 Tryd.underlying5
theorem fd5_8 : (∀ {S : Mem} {k : IntKind} {n : Int}, convD Tryd.prog 47 5 (.int k n) S = some (.int .u8 (IntKind.wrap .u8 n), S)) := conv_int Tryd.underlying47 Tryd.underlying5
theorem fd9_0 : (Tryd.prog.underlying 9 = some (.string)) := Tryd.underlying9
theorem fd9_1 : (∀ {x : D} {S : Mem}, loadD Tryd.prog 9 x S = (cellsAt x S).bind fun p => p.1[p.2]?) := ld_one dag9
theorem fd9_2 : (∀ {o off : Nat} {S : Mem} {v : D}, cellsD v = some [v] → D.one v = true → storeD Tryd.prog 9 (.ptr o off) v S = (objAt S o).bind fun cells => if off + 1 ≤ cells.length then some (S.set o (.obj (wr cells off [v]))) else none) := fun h1 h2 => st_cells dsz9 h1 rfl (by simp [h2])
theorem fd9_3 : (∀ {ρ : DEnv} {S : Mem}, opD Tryd.prog ρ (.alloc 9) S = some (.ptr S.length 0, S ++ [.obj [.str ⟨#[]⟩]])) := al_cells dze9 (by simp [scalarV, Value.cells])
theorem fd9_4 : (∀ {S : Mem} {a : ByteArray}, convD Tryd.prog 9 9 (.str a) S = some (.str a, S)) := conv_str Tryd.underlying9 Tryd.underlying9
theorem fd9_5 : (∀ {s : ByteArray} {lo hi : Option D}, sliceD Tryd.prog 9 (.str s) lo hi none = (optNatD lo).bind fun l => (optNatD hi).bind fun h => if l.getD 0 ≤ h.getD s.size ∧ h.getD s.size ≤ s.size then some (.str (s.extract (l.getD 0) (h.getD s.size))) else none) := cut_str Tryd.underlying9
theorem fd9_6 : (∀ {x i : Operand} {ρ : DEnv} {S : Mem}, opD Tryd.prog ρ (.index 9 x i) S = indexStr (evalD ρ x) (evalD ρ i) S) := ix_str Tryd.underlying9
theorem fd9_7 : (∀ {s : ByteArray} {S : Mem}, builtinD Tryd.prog .len #[9] [.str s] S = some (.int .i64 s.size, S)) := len_str rfl Tryd.underlying9
theorem fd23_0 : (Tryd.prog.underlying 23 = some (.slice 35)) := Tryd.underlying23
theorem fd23_1 : (∀ {x : D} {S : Mem}, loadD Tryd.prog 23 x S = (cellsAt x S).bind fun p => p.1[p.2]?) := ld_one dag23
theorem fd23_2 : (∀ {o off : Nat} {S : Mem} {v : D}, cellsD v = some [v] → D.one v = true → storeD Tryd.prog 23 (.ptr o off) v S = (objAt S o).bind fun cells => if off + 1 ≤ cells.length then some (S.set o (.obj (wr cells off [v]))) else none) := fun h1 h2 => st_cells dsz23 h1 rfl (by simp [h2])
theorem fd23_3 : (∀ {ρ : DEnv} {S : Mem}, opD Tryd.prog ρ (.alloc 23) S = some (.ptr S.length 0, S ++ [.obj [.nils]])) := al_cells dze23 (by simp [scalarV, Value.cells])
theorem fd23_4 : (∀ {own : Option Nat} {len : Nat} {cells : List D} {k : IntKind} {i : Int}, indexAtD Tryd.prog 23 (.sl own 4 len cells) (.int k i) = if 0 ≤ i ∧ i < len then some (.eptr cells (i.toNat * 4)) else none) := ix_sl Tryd.underlying23 dsz35
theorem fd23_5 : (∀ {own : Option Nat} {len : Nat} {cells : List D} {lo hi mx : Option D}, sliceD Tryd.prog 23 (.sl own 4 len cells) lo hi mx = (optNatD lo).bind fun l => (optNatD hi).bind fun h => (optNatD mx).bind fun m => if m.isSome = true ∧ h.isNone = true then none else cutD own 4 len cells (l.getD 0) (h.getD len) m) := cut_sl Tryd.underlying23 dsz35
theorem fd23_6 : (∀ {n : Nat} {ps : List (Nat × D)} {S : Mem}, buildSliceD Tryd.prog 23 n ps S = if n * 4 > 2 ^ 24 then none else (fillD (fun i => some (i * 4, 4)) (repD [.int .i64 0, .str ⟨#[]⟩, .int .i64 0, .int .i64 0] n) ps).bind fun cells => if cells.all D.one = true then some (.sl (some S.length) 4 n cells, S ++ [.own]) else none) := bs_slice Tryd.underlying23 dsz35 dze35 (by simp [scalarV, Value.cells]) rfl
theorem fd23_7 : (∀ {S : Mem}, appendD Tryd.prog #[23, 23] .nils .nils S = some (.nils, S)) := by intros; exact ap_zero del23 rfl (by simp)
theorem fd23_8 : (∀ {S : Mem}, appendD Tryd.prog #[23, 23] .sl0 .nils S = some (.sl0, S)) := by intros; exact ap_zero del23 rfl (by simp)
theorem fd23_9 : (∀ {own : Option Nat} {len : Nat} {cells : List D} {S : Mem}, appendD Tryd.prog #[23, 23] (.sl own 4 len cells) .nils S = some ((.sl own 4 len cells), S)) := by intros; exact ap_zero del23 rfl (by simp)
theorem fd23_10 : (∀ {S : Mem}, appendD Tryd.prog #[23, 23] .nils .sl0 S = some (.nils, S)) := by intros; exact ap_zero del23 rfl (by simp)
theorem fd23_11 : (∀ {S : Mem}, appendD Tryd.prog #[23, 23] .sl0 .sl0 S = some (.sl0, S)) := by intros; exact ap_zero del23 rfl (by simp)
theorem fd23_12 : (∀ {own : Option Nat} {len : Nat} {cells : List D} {S : Mem}, appendD Tryd.prog #[23, 23] (.sl own 4 len cells) .sl0 S = some ((.sl own 4 len cells), S)) := by intros; exact ap_zero del23 rfl (by simp)
theorem fd23_13 : (∀ {S : Mem}, appendD Tryd.prog #[23, 23] .nils .slx S = some (.nils, S)) := by intros; exact ap_zero del23 rfl (by simp)
theorem fd23_14 : (∀ {S : Mem}, appendD Tryd.prog #[23, 23] .sl0 .slx S = some (.sl0, S)) := by intros; exact ap_zero del23 rfl (by simp)
theorem fd23_15 : (∀ {own : Option Nat} {len : Nat} {cells : List D} {S : Mem}, appendD Tryd.prog #[23, 23] (.sl own 4 len cells) .slx S = some ((.sl own 4 len cells), S)) := by intros; exact ap_zero del23 rfl (by simp)
theorem fd23_16 : (∀ {own : Option Nat} {m : Nat} {new : List D} {S : Mem}, appendD Tryd.prog #[23, 23] .nils (.sl own 4 m new) S = if m = 0 then some (.nils, S) else if fitsD 40 m new then some (.sl (some S.length) 4 m new, S ++ [.own]) else none) := ap_nils del23
theorem fd23_17 : (∀ {own : Option Nat} {m : Nat} {new : List D} {S : Mem}, appendD Tryd.prog #[23, 23] .sl0 (.sl own 4 m new) S = if m = 0 then some (.sl0, S) else if fitsD 40 m new then some (.sl (some S.length) 4 m new, S ++ [.own]) else none) := ap_sl0 del23
theorem fd23_18 : (∀ {own : Option Nat} {id m len : Nat} {cells new : List D} {S : Mem}, appendD Tryd.prog #[23, 23] (.sl (some id) 4 len cells) (.sl own 4 m new) S = if m = 0 then some (.sl (some id) 4 len cells, S) else if fitsD 40 (len + m) new then (match S[id]? with | some .own => some (.sl (some S.length) 4 (len + m) (cells ++ new), S.set id .dead ++ [.own]) | _ => none) else none) := ap_own del23
theorem fd23_19 : (∀ {own : Option Nat} {len : Nat} {cells : List D} {S : Mem}, builtinD Tryd.prog .len #[23] [.sl own 4 len cells] S = some (.int .i64 len, S)) := len_sl rfl Tryd.underlying23
theorem fd23_20 : (∀ {S : Mem}, builtinD Tryd.prog .len #[23] [.nils] S = some (.int .i64 0, S)) := len_nil rfl Tryd.underlying23
theorem fd23_21 : (∀ {x y : Operand}, binD Tryd.prog .eql 23 x y .nils .nils = some (.bool true) ∧ binD Tryd.prog .eql 23 x y .slx .nils = some (.bool false) ∧ (∀ {own sz n cells}, binD Tryd.prog .eql 23 x y (.sl own sz (n + 1) cells) .nils = some (.bool false)) ∧ binD Tryd.prog .neq 23 x y .nils .nils = some (.bool false) ∧ binD Tryd.prog .neq 23 x y .slx .nils = some (.bool true) ∧ (∀ {own sz n cells}, binD Tryd.prog .neq 23 x y (.sl own sz (n + 1) cells) .nils = some (.bool true))) := eq_nils Tryd.underlying23
theorem fd23_22 : (∀ {S : Mem}, builtinD Tryd.prog .len #[23] [.slx] S = some (.int .i64 0, S)) := len_slx rfl Tryd.underlying23
theorem fd23_23 : (∀ {S : Mem}, builtinD Tryd.prog .len #[23] [.sl0] S = some (.int .i64 0, S)) := len_nil0 rfl Tryd.underlying23
theorem fd24_0 : (Tryd.prog.underlying 24 = some (.int .i64)) := Tryd.underlying24
theorem fd24_1 : (∀ {x : D} {S : Mem}, loadD Tryd.prog 24 x S = (cellsAt x S).bind fun p => p.1[p.2]?) := ld_one dag24
theorem fd24_2 : (∀ {o off : Nat} {S : Mem} {v : D}, cellsD v = some [v] → D.one v = true → storeD Tryd.prog 24 (.ptr o off) v S = (objAt S o).bind fun cells => if off + 1 ≤ cells.length then some (S.set o (.obj (wr cells off [v]))) else none) := fun h1 h2 => st_cells dsz24 h1 rfl (by simp [h2])
theorem fd24_3 : (∀ {ρ : DEnv} {S : Mem}, opD Tryd.prog ρ (.alloc 24) S = some (.ptr S.length 0, S ++ [.obj [.int .i64 0]])) := al_cells dze24 (by simp [scalarV, Value.cells])
theorem fd24_4 : (∀ {S : Mem} {k : IntKind} {n : Int}, convD Tryd.prog 2 24 (.int k n) S = some (.int .i64 (IntKind.wrap .i64 n), S)) := conv_int Tryd.underlying2 Tryd.underlying24
theorem fd24_5 : (∀ {S : Mem} {k : IntKind} {n : Int}, convD Tryd.prog 3 24 (.int k n) S = some (.int .i64 (IntKind.wrap .i64 n), S)) := conv_int Tryd.underlying3 Tryd.underlying24
theorem fd24_6 : (∀ {S : Mem} {k : IntKind} {n : Int}, convD Tryd.prog 5 24 (.int k n) S = some (.int .i64 (IntKind.wrap .i64 n), S)) := conv_int Tryd.underlying5 Tryd.underlying24
theorem fd24_7 : (∀ {S : Mem} {k : IntKind} {n : Int}, convD Tryd.prog 24 24 (.int k n) S = some (.int .i64 (IntKind.wrap .i64 n), S)) := conv_int Tryd.underlying24 Tryd.underlying24
theorem fd24_8 : (∀ {S : Mem} {k : IntKind} {n : Int}, convD Tryd.prog 47 24 (.int k n) S = some (.int .i64 (IntKind.wrap .i64 n), S)) := conv_int Tryd.underlying47 Tryd.underlying24
theorem fd27_0 : (Tryd.prog.underlying 27 = some (.slice 36)) := Tryd.underlying27
theorem fd27_1 : (∀ {x : D} {S : Mem}, loadD Tryd.prog 27 x S = (cellsAt x S).bind fun p => p.1[p.2]?) := ld_one dag27
theorem fd27_2 : (∀ {o off : Nat} {S : Mem} {v : D}, cellsD v = some [v] → D.one v = true → storeD Tryd.prog 27 (.ptr o off) v S = (objAt S o).bind fun cells => if off + 1 ≤ cells.length then some (S.set o (.obj (wr cells off [v]))) else none) := fun h1 h2 => st_cells dsz27 h1 rfl (by simp [h2])
theorem fd27_3 : (∀ {ρ : DEnv} {S : Mem}, opD Tryd.prog ρ (.alloc 27) S = some (.ptr S.length 0, S ++ [.obj [.nils]])) := al_cells dze27 (by simp [scalarV, Value.cells])
theorem fd27_4 : (∀ {own : Option Nat} {len : Nat} {cells : List D} {k : IntKind} {i : Int}, indexAtD Tryd.prog 27 (.sl own 4 len cells) (.int k i) = if 0 ≤ i ∧ i < len then some (.eptr cells (i.toNat * 4)) else none) := ix_sl Tryd.underlying27 dsz36
theorem fd27_5 : (∀ {own : Option Nat} {len : Nat} {cells : List D} {lo hi mx : Option D}, sliceD Tryd.prog 27 (.sl own 4 len cells) lo hi mx = (optNatD lo).bind fun l => (optNatD hi).bind fun h => (optNatD mx).bind fun m => if m.isSome = true ∧ h.isNone = true then none else cutD own 4 len cells (l.getD 0) (h.getD len) m) := cut_sl Tryd.underlying27 dsz36
theorem fd27_6 : (∀ {n : Nat} {ps : List (Nat × D)} {S : Mem}, buildSliceD Tryd.prog 27 n ps S = if n * 4 > 2 ^ 24 then none else (fillD (fun i => some (i * 4, 4)) (repD [.int .i64 0, .str ⟨#[]⟩, .int .i64 0, .int .i64 0] n) ps).bind fun cells => if cells.all D.one = true then some (.sl (some S.length) 4 n cells, S ++ [.own]) else none) := bs_slice Tryd.underlying27 dsz36 dze36 (by simp [scalarV, Value.cells]) rfl
theorem fd27_7 : (∀ {S : Mem}, appendD Tryd.prog #[27, 27] .nils .nils S = some (.nils, S)) := by intros; exact ap_zero del27 rfl (by simp)
theorem fd27_8 : (∀ {S : Mem}, appendD Tryd.prog #[27, 27] .sl0 .nils S = some (.sl0, S)) := by intros; exact ap_zero del27 rfl (by simp)
theorem fd27_9 : (∀ {own : Option Nat} {len : Nat} {cells : List D} {S : Mem}, appendD Tryd.prog #[27, 27] (.sl own 4 len cells) .nils S = some ((.sl own 4 len cells), S)) := by intros; exact ap_zero del27 rfl (by simp)
theorem fd27_10 : (∀ {S : Mem}, appendD Tryd.prog #[27, 27] .nils .sl0 S = some (.nils, S)) := by intros; exact ap_zero del27 rfl (by simp)
theorem fd27_11 : (∀ {S : Mem}, appendD Tryd.prog #[27, 27] .sl0 .sl0 S = some (.sl0, S)) := by intros; exact ap_zero del27 rfl (by simp)
theorem fd27_12 : (∀ {own : Option Nat} {len : Nat} {cells : List D} {S : Mem}, appendD Tryd.prog #[27, 27] (.sl own 4 len cells) .sl0 S = some ((.sl own 4 len cells), S)) := by intros; exact ap_zero del27 rfl (by simp)
theorem fd27_13 : (∀ {S : Mem}, appendD Tryd.prog #[27, 27] .nils .slx S = some (.nils, S)) := by intros; exact ap_zero del27 rfl (by simp)
theorem fd27_14 : (∀ {S : Mem}, appendD Tryd.prog #[27, 27] .sl0 .slx S = some (.sl0, S)) := by intros; exact ap_zero del27 rfl (by simp)
theorem fd27_15 : (∀ {own : Option Nat} {len : Nat} {cells : List D} {S : Mem}, appendD Tryd.prog #[27, 27] (.sl own 4 len cells) .slx S = some ((.sl own 4 len cells), S)) := by intros; exact ap_zero del27 rfl (by simp)
theorem fd27_16 : (∀ {own : Option Nat} {m : Nat} {new : List D} {S : Mem}, appendD Tryd.prog #[27, 27] .nils (.sl own 4 m new) S = if m = 0 then some (.nils, S) else if fitsD 40 m new then some (.sl (some S.length) 4 m new, S ++ [.own]) else none) := ap_nils del27
theorem fd27_17 : (∀ {own : Option Nat} {m : Nat} {new : List D} {S : Mem}, appendD Tryd.prog #[27, 27] .sl0 (.sl own 4 m new) S = if m = 0 then some (.sl0, S) else if fitsD 40 m new then some (.sl (some S.length) 4 m new, S ++ [.own]) else none) := ap_sl0 del27
theorem fd27_18 : (∀ {own : Option Nat} {id m len : Nat} {cells new : List D} {S : Mem}, appendD Tryd.prog #[27, 27] (.sl (some id) 4 len cells) (.sl own 4 m new) S = if m = 0 then some (.sl (some id) 4 len cells, S) else if fitsD 40 (len + m) new then (match S[id]? with | some .own => some (.sl (some S.length) 4 (len + m) (cells ++ new), S.set id .dead ++ [.own]) | _ => none) else none) := ap_own del27
theorem fd27_19 : (∀ {own : Option Nat} {len : Nat} {cells : List D} {S : Mem}, builtinD Tryd.prog .len #[27] [.sl own 4 len cells] S = some (.int .i64 len, S)) := len_sl rfl Tryd.underlying27
theorem fd27_20 : (∀ {S : Mem}, builtinD Tryd.prog .len #[27] [.nils] S = some (.int .i64 0, S)) := len_nil rfl Tryd.underlying27
theorem fd27_21 : (∀ {x y : Operand}, binD Tryd.prog .eql 27 x y .nils .nils = some (.bool true) ∧ binD Tryd.prog .eql 27 x y .slx .nils = some (.bool false) ∧ (∀ {own sz n cells}, binD Tryd.prog .eql 27 x y (.sl own sz (n + 1) cells) .nils = some (.bool false)) ∧ binD Tryd.prog .neq 27 x y .nils .nils = some (.bool false) ∧ binD Tryd.prog .neq 27 x y .slx .nils = some (.bool true) ∧ (∀ {own sz n cells}, binD Tryd.prog .neq 27 x y (.sl own sz (n + 1) cells) .nils = some (.bool true))) := eq_nils Tryd.underlying27
theorem fd27_22 : (∀ {S : Mem}, builtinD Tryd.prog .len #[27] [.slx] S = some (.int .i64 0, S)) := len_slx rfl Tryd.underlying27
theorem fd27_23 : (∀ {S : Mem}, builtinD Tryd.prog .len #[27] [.sl0] S = some (.int .i64 0, S)) := len_nil0 rfl Tryd.underlying27
theorem fd35_0 : (∀ {x : D} {S : Mem}, loadD Tryd.prog 35 x S = (cellsAt x S).bind fun p => if p.2 + 4 ≤ p.1.length then some (.agg ((p.1.drop p.2).take 4)) else none) := ld_agg dag35 dsz35
theorem fd35_1 : (∀ {o off : Nat} {S : Mem} {x0 x1 x2 x3 : D}, ([x0, x1, x2, x3] : List D).all D.one = true → storeD Tryd.prog 35 (.ptr o off) (.agg [x0, x1, x2, x3]) S = (objAt S o).bind fun cells => if off + 4 ≤ cells.length then some (S.set o (.obj (wr cells off [x0, x1, x2, x3]))) else none) := fun h => st_cells dsz35 rfl rfl h
theorem fd35_2 : (∀ {ρ : DEnv} {S : Mem}, opD Tryd.prog ρ (.alloc 35) S = some (.ptr S.length 0, S ++ [.obj [.int .i64 0, .str ⟨#[]⟩, .int .i64 0, .int .i64 0]])) := al_cells dze35 (by simp [scalarV, Value.cells])
theorem fd35_3 : (∀ {o off : Nat}, fieldAtD Tryd.prog 35 (.ptr o off) 0 = some (.ptr o (off + 0))) := by simp [fieldAtD, Tryd.underlying35, dsz3]
theorem fd35_4 : (∀ {c : List D} {off : Nat}, fieldAtD Tryd.prog 35 (.eptr c off) 0 = some (.eptr c (off + 0))) := by simp [fieldAtD, Tryd.underlying35, dsz3]
theorem fd35_5 : (∀ {o off : Nat}, fieldAtD Tryd.prog 35 (.ptr o off) 1 = some (.ptr o (off + 1))) := by simp [fieldAtD, Tryd.underlying35, dsz9]
theorem fd35_6 : (∀ {c : List D} {off : Nat}, fieldAtD Tryd.prog 35 (.eptr c off) 1 = some (.eptr c (off + 1))) := by simp [fieldAtD, Tryd.underlying35, dsz9]
theorem fd35_7 : (∀ {o off : Nat}, fieldAtD Tryd.prog 35 (.ptr o off) 2 = some (.ptr o (off + 2))) := by simp [fieldAtD, Tryd.underlying35, dsz2]
theorem fd35_8 : (∀ {c : List D} {off : Nat}, fieldAtD Tryd.prog 35 (.eptr c off) 2 = some (.eptr c (off + 2))) := by simp [fieldAtD, Tryd.underlying35, dsz2]
theorem fd35_9 : (∀ {o off : Nat}, fieldAtD Tryd.prog 35 (.ptr o off) 3 = some (.ptr o (off + 3))) := by simp [fieldAtD, Tryd.underlying35, dsz3]
theorem fd35_10 : (∀ {c : List D} {off : Nat}, fieldAtD Tryd.prog 35 (.eptr c off) 3 = some (.eptr c (off + 3))) := by simp [fieldAtD, Tryd.underlying35, dsz3]
theorem fd35_11 : (∀ {ps : List (Nat × D)}, buildD Tryd.prog 35 ps = (fillD (fun i => ([(0, 1), (1, 1), (2, 1), (3, 1)] : List (Nat × Nat))[i]?) [.int .i64 0, .str ⟨#[]⟩, .int .i64 0, .int .i64 0] ps).map .agg) := bd_struct Tryd.underlying35 dpl35 dze35 (by simp [scalarV, Value.cells])
theorem fd36_0 : (∀ {x : D} {S : Mem}, loadD Tryd.prog 36 x S = (cellsAt x S).bind fun p => if p.2 + 4 ≤ p.1.length then some (.agg ((p.1.drop p.2).take 4)) else none) := ld_agg dag36 dsz36
theorem fd36_1 : (∀ {o off : Nat} {S : Mem} {x0 x1 x2 x3 : D}, ([x0, x1, x2, x3] : List D).all D.one = true → storeD Tryd.prog 36 (.ptr o off) (.agg [x0, x1, x2, x3]) S = (objAt S o).bind fun cells => if off + 4 ≤ cells.length then some (S.set o (.obj (wr cells off [x0, x1, x2, x3]))) else none) := fun h => st_cells dsz36 rfl rfl h
theorem fd36_2 : (∀ {ρ : DEnv} {S : Mem}, opD Tryd.prog ρ (.alloc 36) S = some (.ptr S.length 0, S ++ [.obj [.int .i64 0, .str ⟨#[]⟩, .int .i64 0, .int .i64 0]])) := al_cells dze36 (by simp [scalarV, Value.cells])
theorem fd36_3 : (∀ {o off : Nat}, fieldAtD Tryd.prog 36 (.ptr o off) 0 = some (.ptr o (off + 0))) := by simp [fieldAtD, Tryd.underlying36, dsz3]
theorem fd36_4 : (∀ {c : List D} {off : Nat}, fieldAtD Tryd.prog 36 (.eptr c off) 0 = some (.eptr c (off + 0))) := by simp [fieldAtD, Tryd.underlying36, dsz3]
theorem fd36_5 : (∀ {o off : Nat}, fieldAtD Tryd.prog 36 (.ptr o off) 1 = some (.ptr o (off + 1))) := by simp [fieldAtD, Tryd.underlying36, dsz9]
theorem fd36_6 : (∀ {c : List D} {off : Nat}, fieldAtD Tryd.prog 36 (.eptr c off) 1 = some (.eptr c (off + 1))) := by simp [fieldAtD, Tryd.underlying36, dsz9]
theorem fd36_7 : (∀ {o off : Nat}, fieldAtD Tryd.prog 36 (.ptr o off) 2 = some (.ptr o (off + 2))) := by simp [fieldAtD, Tryd.underlying36, dsz2]
theorem fd36_8 : (∀ {c : List D} {off : Nat}, fieldAtD Tryd.prog 36 (.eptr c off) 2 = some (.eptr c (off + 2))) := by simp [fieldAtD, Tryd.underlying36, dsz2]
theorem fd36_9 : (∀ {o off : Nat}, fieldAtD Tryd.prog 36 (.ptr o off) 3 = some (.ptr o (off + 3))) := by simp [fieldAtD, Tryd.underlying36, dsz3]
theorem fd36_10 : (∀ {c : List D} {off : Nat}, fieldAtD Tryd.prog 36 (.eptr c off) 3 = some (.eptr c (off + 3))) := by simp [fieldAtD, Tryd.underlying36, dsz3]
theorem fd36_11 : (∀ {ps : List (Nat × D)}, buildD Tryd.prog 36 ps = (fillD (fun i => ([(0, 1), (1, 1), (2, 1), (3, 1)] : List (Nat × Nat))[i]?) [.int .i64 0, .str ⟨#[]⟩, .int .i64 0, .int .i64 0] ps).map .agg) := bd_struct Tryd.underlying36 dpl36 dze36 (by simp [scalarV, Value.cells])
theorem fd45_0 : (Tryd.prog.underlying 45 = some (.slice 9)) := Tryd.underlying45
theorem fd45_1 : (∀ {x : D} {S : Mem}, loadD Tryd.prog 45 x S = (cellsAt x S).bind fun p => p.1[p.2]?) := ld_one dag45
theorem fd45_2 : (∀ {o off : Nat} {S : Mem} {v : D}, cellsD v = some [v] → D.one v = true → storeD Tryd.prog 45 (.ptr o off) v S = (objAt S o).bind fun cells => if off + 1 ≤ cells.length then some (S.set o (.obj (wr cells off [v]))) else none) := fun h1 h2 => st_cells dsz45 h1 rfl (by simp [h2])
theorem fd45_3 : (∀ {ρ : DEnv} {S : Mem}, opD Tryd.prog ρ (.alloc 45) S = some (.ptr S.length 0, S ++ [.obj [.nils]])) := al_cells dze45 (by simp [scalarV, Value.cells])
theorem fd45_4 : (∀ {own : Option Nat} {len : Nat} {cells : List D} {k : IntKind} {i : Int}, indexAtD Tryd.prog 45 (.sl own 1 len cells) (.int k i) = if 0 ≤ i ∧ i < len then some (.eptr cells (i.toNat * 1)) else none) := ix_sl Tryd.underlying45 dsz9
theorem fd45_5 : (∀ {own : Option Nat} {len : Nat} {cells : List D} {lo hi mx : Option D}, sliceD Tryd.prog 45 (.sl own 1 len cells) lo hi mx = (optNatD lo).bind fun l => (optNatD hi).bind fun h => (optNatD mx).bind fun m => if m.isSome = true ∧ h.isNone = true then none else cutD own 1 len cells (l.getD 0) (h.getD len) m) := cut_sl Tryd.underlying45 dsz9
theorem fd45_6 : (∀ {n : Nat} {ps : List (Nat × D)} {S : Mem}, buildSliceD Tryd.prog 45 n ps S = if n * 1 > 2 ^ 24 then none else (fillD (fun i => some (i * 1, 1)) (repD [.str ⟨#[]⟩] n) ps).bind fun cells => if cells.all D.one = true then some (.sl (some S.length) 1 n cells, S ++ [.own]) else none) := bs_slice Tryd.underlying45 dsz9 dze9 (by simp [scalarV, Value.cells]) rfl
theorem fd45_7 : (∀ {S : Mem}, appendD Tryd.prog #[45, 45] .nils .nils S = some (.nils, S)) := by intros; exact ap_zero del45 rfl (by simp)
theorem fd45_8 : (∀ {S : Mem}, appendD Tryd.prog #[45, 45] .sl0 .nils S = some (.sl0, S)) := by intros; exact ap_zero del45 rfl (by simp)
theorem fd45_9 : (∀ {own : Option Nat} {len : Nat} {cells : List D} {S : Mem}, appendD Tryd.prog #[45, 45] (.sl own 1 len cells) .nils S = some ((.sl own 1 len cells), S)) := by intros; exact ap_zero del45 rfl (by simp)
theorem fd45_10 : (∀ {S : Mem}, appendD Tryd.prog #[45, 45] .nils .sl0 S = some (.nils, S)) := by intros; exact ap_zero del45 rfl (by simp)
theorem fd45_11 : (∀ {S : Mem}, appendD Tryd.prog #[45, 45] .sl0 .sl0 S = some (.sl0, S)) := by intros; exact ap_zero del45 rfl (by simp)
theorem fd45_12 : (∀ {own : Option Nat} {len : Nat} {cells : List D} {S : Mem}, appendD Tryd.prog #[45, 45] (.sl own 1 len cells) .sl0 S = some ((.sl own 1 len cells), S)) := by intros; exact ap_zero del45 rfl (by simp)
theorem fd45_13 : (∀ {S : Mem}, appendD Tryd.prog #[45, 45] .nils .slx S = some (.nils, S)) := by intros; exact ap_zero del45 rfl (by simp)
theorem fd45_14 : (∀ {S : Mem}, appendD Tryd.prog #[45, 45] .sl0 .slx S = some (.sl0, S)) := by intros; exact ap_zero del45 rfl (by simp)
theorem fd45_15 : (∀ {own : Option Nat} {len : Nat} {cells : List D} {S : Mem}, appendD Tryd.prog #[45, 45] (.sl own 1 len cells) .slx S = some ((.sl own 1 len cells), S)) := by intros; exact ap_zero del45 rfl (by simp)
theorem fd45_16 : (∀ {own : Option Nat} {m : Nat} {new : List D} {S : Mem}, appendD Tryd.prog #[45, 45] .nils (.sl own 1 m new) S = if m = 0 then some (.nils, S) else if fitsD 16 m new then some (.sl (some S.length) 1 m new, S ++ [.own]) else none) := ap_nils del45
theorem fd45_17 : (∀ {own : Option Nat} {m : Nat} {new : List D} {S : Mem}, appendD Tryd.prog #[45, 45] .sl0 (.sl own 1 m new) S = if m = 0 then some (.sl0, S) else if fitsD 16 m new then some (.sl (some S.length) 1 m new, S ++ [.own]) else none) := ap_sl0 del45
theorem fd45_18 : (∀ {own : Option Nat} {id m len : Nat} {cells new : List D} {S : Mem}, appendD Tryd.prog #[45, 45] (.sl (some id) 1 len cells) (.sl own 1 m new) S = if m = 0 then some (.sl (some id) 1 len cells, S) else if fitsD 16 (len + m) new then (match S[id]? with | some .own => some (.sl (some S.length) 1 (len + m) (cells ++ new), S.set id .dead ++ [.own]) | _ => none) else none) := ap_own del45
theorem fd45_19 : (∀ {own : Option Nat} {len : Nat} {cells : List D} {S : Mem}, builtinD Tryd.prog .len #[45] [.sl own 1 len cells] S = some (.int .i64 len, S)) := len_sl rfl Tryd.underlying45
theorem fd45_20 : (∀ {S : Mem}, builtinD Tryd.prog .len #[45] [.nils] S = some (.int .i64 0, S)) := len_nil rfl Tryd.underlying45
theorem fd45_21 : (∀ {x y : Operand}, binD Tryd.prog .eql 45 x y .nils .nils = some (.bool true) ∧ binD Tryd.prog .eql 45 x y .slx .nils = some (.bool false) ∧ (∀ {own sz n cells}, binD Tryd.prog .eql 45 x y (.sl own sz (n + 1) cells) .nils = some (.bool false)) ∧ binD Tryd.prog .neq 45 x y .nils .nils = some (.bool false) ∧ binD Tryd.prog .neq 45 x y .slx .nils = some (.bool true) ∧ (∀ {own sz n cells}, binD Tryd.prog .neq 45 x y (.sl own sz (n + 1) cells) .nils = some (.bool true))) := eq_nils Tryd.underlying45
theorem fd45_22 : (∀ {S : Mem}, builtinD Tryd.prog .len #[45] [.slx] S = some (.int .i64 0, S)) := len_slx rfl Tryd.underlying45
theorem fd45_23 : (∀ {S : Mem}, builtinD Tryd.prog .len #[45] [.sl0] S = some (.int .i64 0, S)) := len_nil0 rfl Tryd.underlying45
theorem fd47_0 : (Tryd.prog.underlying 47 = some (.int .u64)) := Tryd.underlying47
theorem fd47_1 : (∀ {x : D} {S : Mem}, loadD Tryd.prog 47 x S = (cellsAt x S).bind fun p => p.1[p.2]?) := ld_one dag47
theorem fd47_2 : (∀ {o off : Nat} {S : Mem} {v : D}, cellsD v = some [v] → D.one v = true → storeD Tryd.prog 47 (.ptr o off) v S = (objAt S o).bind fun cells => if off + 1 ≤ cells.length then some (S.set o (.obj (wr cells off [v]))) else none) := fun h1 h2 => st_cells dsz47 h1 rfl (by simp [h2])
theorem fd47_3 : (∀ {ρ : DEnv} {S : Mem}, opD Tryd.prog ρ (.alloc 47) S = some (.ptr S.length 0, S ++ [.obj [.int .u64 0]])) := al_cells dze47 (by simp [scalarV, Value.cells])
theorem fd47_4 : (∀ {S : Mem} {k : IntKind} {n : Int}, convD Tryd.prog 2 47 (.int k n) S = some (.int .u64 (IntKind.wrap .u64 n), S)) := conv_int Tryd.underlying2 Tryd.underlying47
theorem fd47_5 : (∀ {S : Mem} {k : IntKind} {n : Int}, convD Tryd.prog 3 47 (.int k n) S = some (.int .u64 (IntKind.wrap .u64 n), S)) := conv_int Tryd.underlying3 Tryd.underlying47
theorem fd47_6 : (∀ {S : Mem} {k : IntKind} {n : Int}, convD Tryd.prog 5 47 (.int k n) S = some (.int .u64 (IntKind.wrap .u64 n), S)) := conv_int Tryd.underlying5 Tryd.underlying47
theorem fd47_7 : (∀ {S : Mem} {k : IntKind} {n : Int}, convD Tryd.prog 24 47 (.int k n) S = some (.int .u64 (IntKind.wrap .u64 n), S)) := conv_int Tryd.underlying24 Tryd.underlying47
theorem fd47_8 : (∀ {S : Mem} {k : IntKind} {n : Int}, convD Tryd.prog 47 47 (.int k n) S = some (.int .u64 (IntKind.wrap .u64 n), S)) := conv_int Tryd.underlying47 Tryd.underlying47
theorem fd54_0 : (∀ {x : D} {S : Mem}, loadD Tryd.prog 54 x S = (cellsAt x S).bind fun p => p.1[p.2]?) := ld_one dag54
theorem fd54_1 : (∀ {o off : Nat} {S : Mem} {v : D}, cellsD v = some [v] → D.one v = true → storeD Tryd.prog 54 (.ptr o off) v S = (objAt S o).bind fun cells => if off + 1 ≤ cells.length then some (S.set o (.obj (wr cells off [v]))) else none) := fun h1 h2 => st_cells dsz54 h1 rfl (by simp [h2])
theorem fd54_2 : (∀ {ρ : DEnv} {S : Mem}, opD Tryd.prog ρ (.alloc 54) S = some (.ptr S.length 0, S ++ [.obj [.nili]])) := al_cells dze54 (by simp [scalarV, Value.cells])
end Go.Proofs.DlT
