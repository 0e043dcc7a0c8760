/- Facts on the types of the program: sizes, fields, places, zeros. -/
import Derived.Test.YtipeffaojbhbmaaDoorProg
import Derived.Test.YtipeffaojbhbmaaDoorDmWx
import Derived.KernelRfl
set_option linter.unusedSimpArgs false
set_option linter.unusedVariables false
namespace Go.Proofs.DnT
open Go Go.AM Go.DM
set_option maxRecDepth 100000
theorem dag2 : isAggA Tryd.prog 2 = some false := congrArg (Option.map _) Tryd.underlying2
theorem dag3 : isAggA Tryd.prog 3 = some false := congrArg (Option.map _) Tryd.underlying3
theorem dag4 : isAggA Tryd.prog 4 = some false := congrArg (Option.map _) Tryd.underlying4
theorem dag5 : isAggA Tryd.prog 5 = some false := congrArg (Option.map _) Tryd.underlying5
theorem dag9 : isAggA Tryd.prog 9 = some false := congrArg (Option.map _) Tryd.underlying9
theorem dag23 : isAggA Tryd.prog 23 = some true := congrArg (Option.map _) Tryd.underlying23
theorem dag26 : isAggA Tryd.prog 26 = some true := congrArg (Option.map _) Tryd.underlying26
theorem dag36 : isAggA Tryd.prog 36 = some false := congrArg (Option.map _) Tryd.underlying36
theorem dag38 : isAggA Tryd.prog 38 = some false := congrArg (Option.map _) Tryd.underlying38
theorem dag51 : isAggA Tryd.prog 51 = some false := congrArg (Option.map _) Tryd.underlying51
theorem dag64 : isAggA Tryd.prog 64 = some false := congrArg (Option.map _) Tryd.underlying64
theorem dag68 : isAggA Tryd.prog 68 = some false := congrArg (Option.map _) Tryd.underlying68
theorem dtys : (tyA Tryd.prog 2, tyA Tryd.prog 3, tyA Tryd.prog 4, tyA Tryd.prog 5, tyA Tryd.prog 9, tyA Tryd.prog 23, tyA Tryd.prog 26, tyA Tryd.prog 36, tyA Tryd.prog 38, tyA Tryd.prog 51, tyA Tryd.prog 64, tyA Tryd.prog 68, ()) = ((some 1, some 8, some (.int .i64 0), none), (some 1, some 8, some (.int .i64 0), none), (some 1, some 1, some (.bool false), none), (some 1, some 1, some (.int .u8 0), none), (some 1, some 16, some (.string ⟨#[]⟩), none), (some 4, some 40, some (.agg #[.int .i64 0, .int .i64 0, .int .i64 0, .string ⟨#[]⟩]), some [(0, 1), (1, 1), (2, 1), (3, 1)]), (some 4, some 40, some (.agg #[.int .i64 0, .int .i64 0, .int .i64 0, .string ⟨#[]⟩]), some [(0, 1), (1, 1), (2, 1), (3, 1)]), (some 1, some 24, some (.slice none 0 0), none), (some 1, some 24, some (.slice none 0 0), none), (some 1, some 24, some (.slice none 0 0), none), (some 1, some 24, some (.slice none 0 0), none), (some 1, some 24, some (.slice none 0 0), none), ()) := by kernel_rfl
theorem dsz2 : sizeA Tryd.prog 2 = some 1 := congrArg (fun x => x.1.1) dtys
theorem dby2 : (Tryd.prog.info? 2).map (·.bytes) = some 8 := congrArg (fun x => x.1.2.1) dtys
theorem dze2 : zeroA Tryd.prog 2 = some (.int .i64 0) := congrArg (fun x => x.1.2.2.1) dtys
theorem dsz3 : sizeA Tryd.prog 3 = some 1 := congrArg (fun x => x.2.1.1) dtys
theorem dby3 : (Tryd.prog.info? 3).map (·.bytes) = some 8 := congrArg (fun x => x.2.1.2.1) dtys
theorem dze3 : zeroA Tryd.prog 3 = some (.int .i64 0) := congrArg (fun x => x.2.1.2.2.1) dtys
theorem dsz4 : sizeA Tryd.prog 4 = some 1 := congrArg (fun x => x.2.2.1.1) dtys
theorem dby4 : (Tryd.prog.info? 4).map (·.bytes) = some 1 := congrArg (fun x => x.2.2.1.2.1) dtys
theorem dze4 : zeroA Tryd.prog 4 = some (.bool false) := congrArg (fun x => x.2.2.1.2.2.1) dtys
theorem dsz5 : sizeA Tryd.prog 5 = some 1 := congrArg (fun x => x.2.2.2.1.1) dtys
theorem dby5 : (Tryd.prog.info? 5).map (·.bytes) = some 1 := congrArg (fun x => x.2.2.2.1.2.1) dtys
theorem dze5 : zeroA Tryd.prog 5 = some (.int .u8 0) := congrArg (fun x => x.2.2.2.1.2.2.1) dtys
theorem dsz9 : sizeA Tryd.prog 9 = some 1 := congrArg (fun x => x.2.2.2.2.1.1) dtys
theorem dby9 : (Tryd.prog.info? 9).map (·.bytes) = some 16 := congrArg (fun x => x.2.2.2.2.1.2.1) dtys
theorem dze9 : zeroA Tryd.prog 9 = some (.string ⟨#[]⟩) := congrArg (fun x => x.2.2.2.2.1.2.2.1) dtys
theorem dsz23 : sizeA Tryd.prog 23 = some 4 := congrArg (fun x => x.2.2.2.2.2.1.1) dtys
theorem dby23 : (Tryd.prog.info? 23).map (·.bytes) = some 40 := congrArg (fun x => x.2.2.2.2.2.1.2.1) dtys
theorem dze23 : zeroA Tryd.prog 23 = some (.agg #[.int .i64 0, .int .i64 0, .int .i64 0, .string ⟨#[]⟩]) := congrArg (fun x => x.2.2.2.2.2.1.2.2.1) dtys
theorem dpl23 : placesA Tryd.prog 23 = some [(0, 1), (1, 1), (2, 1), (3, 1)] := congrArg (fun x => x.2.2.2.2.2.1.2.2.2) dtys
theorem dsz26 : sizeA Tryd.prog 26 = some 4 := congrArg (fun x => x.2.2.2.2.2.2.1.1) dtys
theorem dby26 : (Tryd.prog.info? 26).map (·.bytes) = some 40 := congrArg (fun x => x.2.2.2.2.2.2.1.2.1) dtys
theorem dze26 : zeroA Tryd.prog 26 = some (.agg #[.int .i64 0, .int .i64 0, .int .i64 0, .string ⟨#[]⟩]) := congrArg (fun x => x.2.2.2.2.2.2.1.2.2.1) dtys
theorem dpl26 : placesA Tryd.prog 26 = some [(0, 1), (1, 1), (2, 1), (3, 1)] := congrArg (fun x => x.2.2.2.2.2.2.1.2.2.2) dtys
theorem dsz36 : sizeA Tryd.prog 36 = some 1 := congrArg (fun x => x.2.2.2.2.2.2.2.1.1) dtys
theorem dby36 : (Tryd.prog.info? 36).map (·.bytes) = some 24 := congrArg (fun x => x.2.2.2.2.2.2.2.1.2.1) dtys
theorem dze36 : zeroA Tryd.prog 36 = some (.slice none 0 0) := congrArg (fun x => x.2.2.2.2.2.2.2.1.2.2.1) dtys
theorem dsz38 : sizeA Tryd.prog 38 = some 1 := congrArg (fun x => x.2.2.2.2.2.2.2.2.1.1) dtys
theorem dby38 : (Tryd.prog.info? 38).map (·.bytes) = some 24 := congrArg (fun x => x.2.2.2.2.2.2.2.2.1.2.1) dtys
theorem dze38 : zeroA Tryd.prog 38 = some (.slice none 0 0) := congrArg (fun x => x.2.2.2.2.2.2.2.2.1.2.2.1) dtys
theorem dsz51 : sizeA Tryd.prog 51 = some 1 := congrArg (fun x => x.2.2.2.2.2.2.2.2.2.1.1) dtys
theorem dby51 : (Tryd.prog.info? 51).map (·.bytes) = some 24 := congrArg (fun x => x.2.2.2.2.2.2.2.2.2.1.2.1) dtys
theorem dze51 : zeroA Tryd.prog 51 = some (.slice none 0 0) := congrArg (fun x => x.2.2.2.2.2.2.2.2.2.1.2.2.1) dtys
theorem dsz64 : sizeA Tryd.prog 64 = some 1 := congrArg (fun x => x.2.2.2.2.2.2.2.2.2.2.1.1) dtys
theorem dby64 : (Tryd.prog.info? 64).map (·.bytes) = some 24 := congrArg (fun x => x.2.2.2.2.2.2.2.2.2.2.1.2.1) dtys
theorem dze64 : zeroA Tryd.prog 64 = some (.slice none 0 0) := congrArg (fun x => x.2.2.2.2.2.2.2.2.2.2.1.2.2.1) dtys
theorem dsz68 : sizeA Tryd.prog 68 = some 1 := congrArg (fun x => x.2.2.2.2.2.2.2.2.2.2.2.1.1) dtys
theorem dby68 : (Tryd.prog.info? 68).map (·.bytes) = some 24 := congrArg (fun x => x.2.2.2.2.2.2.2.2.2.2.2.1.2.1) dtys
theorem dze68 : zeroA Tryd.prog 68 = some (.slice none 0 0) := congrArg (fun x => x.2.2.2.2.2.2.2.2.2.2.2.1.2.2.1) dtys
theorem del36 : ElemT Tryd.prog 36 23 4 40 := elemT_at Tryd.underlying36 dsz23 dby23 dze23 rfl
theorem del38 : ElemT Tryd.prog 38 5 1 1 := elemT_at Tryd.underlying38 dsz5 dby5 dze5 rfl
theorem del51 : ElemT Tryd.prog 51 9 1 16 := elemT_at Tryd.underlying51 dsz9 dby9 dze9 rfl
theorem del64 : ElemT Tryd.prog 64 3 1 8 := elemT_at Tryd.underlying64 dsz3 dby3 dze3 rfl
theorem del68 : ElemT Tryd.prog 68 2 1 8 := elemT_at Tryd.underlying68 dsz2 dby2 dze2 rfl
theorem dmx : Tryd.prog.follows .mixedOrders = true := by kernel_rfl
theorem fd2_0 : (Tryd.prog.underlying 2 = some (.int .i64)) := Tryd.underlying2
theorem fd2_1 : (∀ {x : D} {S : Mem}, loadD Tryd.prog 2 x S = (cellsAt x S).bind fun p => p.1[p.2]?) := ld_one dag2
theorem fd2_2 : (∀ {o off : Nat} {S : Mem} {v : D}, cellsD v = some [v] → D.one v = true → storeD Tryd.prog 2 (.ptr o off) v S = (objAt S o).bind fun cells => if off + 1 ≤ cells.length then some (S.set o (.obj (wr cells off [v]))) else none) := fun h1 h2 => st_cells dsz2 h1 rfl (by simp [h2])
theorem fd2_3 : (∀ {ρ : DEnv} {S : Mem}, opD Tryd.prog ρ (.alloc 2) S = some (.ptr S.length 0, S ++ [.obj [.int .i64 0]])) := al_cells dze2 (by simp [scalarV, Value.cells])
theorem fd2_4 : (∀ {S : Mem} {k : IntKind} {n : Int}, convD Tryd.prog 2 2 (.int k n) S = some (.int .i64 (IntKind.wrap .i64 n), S)) := conv_int Tryd.underlying2 Tryd.underlying2
theorem fd2_5 : (∀ {S : Mem} {k : IntKind} {n : Int}, convD Tryd.prog 3 2 (.int k n) S = some (.int .i64 (IntKind.wrap .i64 n), S)) := conv_int Tryd.underlying3 Tryd.underlying2
theorem fd2_6 : (∀ {S : Mem} {k : IntKind} {n : Int}, convD Tryd.prog 5 2 (.int k n) S = some (.int .i64 (IntKind.wrap .i64 n), S)) := conv_int Tryd.underlying5 Tryd.underlying2
theorem fd3_0 : (Tryd.prog.underlying 3 = some (.int .i64)) := Tryd.underlying3
theorem fd3_1 : (∀ {x : D} {S : Mem}, loadD Tryd.prog 3 x S = (cellsAt x S).bind fun p => p.1[p.2]?) := ld_one dag3
theorem fd3_2 : (∀ {o off : Nat} {S : Mem} {v : D}, cellsD v = some [v] → D.one v = true → storeD Tryd.prog 3 (.ptr o off) v S = (objAt S o).bind fun cells => if off + 1 ≤ cells.length then some (S.set o (.obj (wr cells off [v]))) else none) := fun h1 h2 => st_cells dsz3 h1 rfl (by simp [h2])
theorem fd3_3 : (∀ {ρ : DEnv} {S : Mem}, opD Tryd.prog ρ (.alloc 3) S = some (.ptr S.length 0, S ++ [.obj [.int .i64 0]])) := al_cells dze3 (by simp [scalarV, Value.cells])
theorem fd3_4 : (∀ {S : Mem} {k : IntKind} {n : Int}, convD Tryd.prog 2 3 (.int k n) S = some (.int .i64 (IntKind.wrap .i64 n), S)) := conv_int Tryd.underlying2 Tryd.underlying3
theorem fd3_5 : (∀ {S : Mem} {k : IntKind} {n : Int}, convD Tryd.prog 3 3 (.int k n) S = some (.int .i64 (IntKind.wrap .i64 n), S)) := conv_int Tryd.underlying3 Tryd.underlying3
theorem fd3_6 : (∀ {S : Mem} {k : IntKind} {n : Int}, convD Tryd.prog 5 3 (.int k n) S = some (.int .i64 (IntKind.wrap .i64 n), S)) := conv_int Tryd.underlying5 Tryd.underlying3
theorem fd4_0 : (Tryd.prog.underlying 4 = some (.bool)) := Tryd.underlying4
theorem fd4_1 : (∀ {x : D} {S : Mem}, loadD Tryd.prog 4 x S = (cellsAt x S).bind fun p => p.1[p.2]?) := ld_one dag4
theorem fd4_2 : (∀ {o off : Nat} {S : Mem} {v : D}, cellsD v = some [v] → D.one v = true → storeD Tryd.prog 4 (.ptr o off) v S = (objAt S o).bind fun cells => if off + 1 ≤ cells.length then some (S.set o (.obj (wr cells off [v]))) else none) := fun h1 h2 => st_cells dsz4 h1 rfl (by simp [h2])
theorem fd4_3 : (∀ {ρ : DEnv} {S : Mem}, opD Tryd.prog ρ (.alloc 4) S = some (.ptr S.length 0, S ++ [.obj [.bool false]])) := al_cells dze4 (by simp [scalarV, Value.cells])
theorem fd4_4 : (∀ {x y : Operand} {a b : Bool}, binD Tryd.prog .eql 4 x y (.bool a) (.bool b) = some (.bool (a == b)) ∧ binD Tryd.prog .neq 4 x y (.bool a) (.bool b) = some (.bool !(a == b))) := bin_bool Tryd.underlying4
theorem fd5_0 : (Tryd.prog.underlying 5 = some (.int .u8)) := Tryd.underlying5
theorem fd5_1 : (∀ {x : D} {S : Mem}, loadD Tryd.prog 5 x S = (cellsAt x S).bind fun p => p.1[p.2]?) := ld_one dag5
theorem fd5_2 : (∀ {o off : Nat} {S : Mem} {v : D}, cellsD v = some [v] → D.one v = true → storeD Tryd.prog 5 (.ptr o off) v S = (objAt S o).bind fun cells => if off + 1 ≤ cells.length then some (S.set o (.obj (wr cells off [v]))) else none) := fun h1 h2 => st_cells dsz5 h1 rfl (by simp [h2])
theorem fd5_3 : (∀ {ρ : DEnv} {S : Mem}, opD Tryd.prog ρ (.alloc 5) S = some (.ptr S.length 0, S ++ [.obj [.int .u8 0]])) := al_cells dze5 (by simp [scalarV, Value.cells])
theorem fd5_4 : (∀ {S : Mem} {k : IntKind} {n : Int}, convD Tryd.prog 2 5 (.int k n) S = some (.int .u8 (IntKind.wrap .u8 n), S)) := conv_int Tryd.underlying2 Tryd.underlying5
theorem fd5_5 : (∀ {S : Mem} {k : IntKind} {n : Int}, convD Tryd.prog 3 5 (.int k n) S = some (.int .u8 (IntKind.wrap .u8 n), S)) := conv_int Tryd.underlying3 Tryd.underlying5
theorem fd5_6 : (∀ {S : Mem} {k : IntKind} {n : Int}, convD Tryd.prog 5 5 (.int k n) S = some (.int .u8 (IntKind.wrap .u8 n), S)) := conv_int Tryd.underlying5 Tryd.underlying5
theorem fd9_0 : (Tryd.prog.underlying 9 = some (.string)) := Tryd.underlying9
theorem fd9_1 : (∀ {x : D} {S : Mem}, loadD Tryd.prog 9 x S = (cellsAt x S).bind fun p => p.1[p.2]?) := ld_one dag9
theorem fd9_2 : (∀ {o off : Nat} {S : Mem} {v : D}, cellsD v = some [v] → D.one v = true → storeD Tryd.prog 9 (.ptr o off) v S = (objAt S o).bind fun cells => if off + 1 ≤ cells.length then some (S.set o (.obj (wr cells off [v]))) else none) := fun h1 h2 => st_cells dsz9 h1 rfl (by simp [h2])
theorem fd9_3 : (∀ {ρ : DEnv} {S : Mem}, opD Tryd.prog ρ (.alloc 9) S = some (.ptr S.length 0, S ++ [.obj [.str ⟨#[]⟩]])) := al_cells dze9 (by simp [scalarV, Value.cells])
theorem fd9_4 : (∀ {S : Mem} {a : ByteArray}, convD Tryd.prog 9 9 (.str a) S = some (.str a, S)) := conv_str Tryd.underlying9 Tryd.underlying9
theorem fd9_5 : (∀ {s : ByteArray} {lo hi : Option D}, sliceD Tryd.prog 9 (.str s) lo hi none = (optNatD lo).bind fun l => (optNatD hi).bind fun h => if l.getD 0 ≤ h.getD s.size ∧ h.getD s.size ≤ s.size then some (.str (s.extract (l.getD 0) (h.getD s.size))) else none) := cut_str Tryd.underlying9
theorem fd9_6 : (∀ {x i : Operand} {ρ : DEnv} {S : Mem}, opD Tryd.prog ρ (.index 9 x i) S = indexStr (evalD ρ x) (evalD ρ i) S) := ix_str Tryd.underlying9
theorem fd9_7 : (∀ {s : ByteArray} {S : Mem}, builtinD Tryd.prog .len #[9] [.str s] S = some (.int .i64 s.size, S)) := len_str rfl Tryd.underlying9
theorem fd23_0 : (∀ {x : D} {S : Mem}, loadD Tryd.prog 23 x S = (cellsAt x S).bind fun p => if p.2 + 4 ≤ p.1.length then some (.agg ((p.1.drop p.2).take 4)) else none) := ld_agg dag23 dsz23
theorem fd23_1 : (∀ {o off : Nat} {S : Mem} {x0 x1 x2 x3 : D}, ([x0, x1, x2, x3] : List D).all D.one = true → storeD Tryd.prog 23 (.ptr o off) (.agg [x0, x1, x2, x3]) S = (objAt S o).bind fun cells => if off + 4 ≤ cells.length then some (S.set o (.obj (wr cells off [x0, x1, x2, x3]))) else none) := fun h => st_cells dsz23 rfl rfl h
theorem fd23_2 : (∀ {ρ : DEnv} {S : Mem}, opD Tryd.prog ρ (.alloc 23) S = some (.ptr S.length 0, S ++ [.obj [.int .i64 0, .int .i64 0, .int .i64 0, .str ⟨#[]⟩]])) := al_cells dze23 (by simp [scalarV, Value.cells])
theorem fd23_3 : (∀ {o off : Nat}, fieldAtD Tryd.prog 23 (.ptr o off) 0 = some (.ptr o (off + 0))) := by simp [fieldAtD, Tryd.underlying23, dsz2]
theorem fd23_4 : (∀ {c : List D} {off : Nat}, fieldAtD Tryd.prog 23 (.eptr c off) 0 = some (.eptr c (off + 0))) := by simp [fieldAtD, Tryd.underlying23, dsz2]
theorem fd23_5 : (∀ {o off : Nat}, fieldAtD Tryd.prog 23 (.ptr o off) 1 = some (.ptr o (off + 1))) := by simp [fieldAtD, Tryd.underlying23, dsz2]
theorem fd23_6 : (∀ {c : List D} {off : Nat}, fieldAtD Tryd.prog 23 (.eptr c off) 1 = some (.eptr c (off + 1))) := by simp [fieldAtD, Tryd.underlying23, dsz2]
theorem fd23_7 : (∀ {o off : Nat}, fieldAtD Tryd.prog 23 (.ptr o off) 2 = some (.ptr o (off + 2))) := by simp [fieldAtD, Tryd.underlying23, dsz2]
theorem fd23_8 : (∀ {c : List D} {off : Nat}, fieldAtD Tryd.prog 23 (.eptr c off) 2 = some (.eptr c (off + 2))) := by simp [fieldAtD, Tryd.underlying23, dsz2]
theorem fd23_9 : (∀ {o off : Nat}, fieldAtD Tryd.prog 23 (.ptr o off) 3 = some (.ptr o (off + 3))) := by simp [fieldAtD, Tryd.underlying23, dsz9]
theorem fd23_10 : (∀ {c : List D} {off : Nat}, fieldAtD Tryd.prog 23 (.eptr c off) 3 = some (.eptr c (off + 3))) := by simp [fieldAtD, Tryd.underlying23, dsz9]
theorem fd23_11 : (∀ {ps : List (Nat × D)}, buildD Tryd.prog 23 ps = (fillD (fun i => ([(0, 1), (1, 1), (2, 1), (3, 1)] : List (Nat × Nat))[i]?) [.int .i64 0, .int .i64 0, .int .i64 0, .str ⟨#[]⟩] ps).map .agg) := bd_struct Tryd.underlying23 dpl23 dze23 (by simp [scalarV, Value.cells])
theorem fd26_0 : (∀ {x : D} {S : Mem}, loadD Tryd.prog 26 x S = (cellsAt x S).bind fun p => if p.2 + 4 ≤ p.1.length then some (.agg ((p.1.drop p.2).take 4)) else none) := ld_agg dag26 dsz26
theorem fd26_1 : (∀ {o off : Nat} {S : Mem} {x0 x1 x2 x3 : D}, ([x0, x1, x2, x3] : List D).all D.one = true → storeD Tryd.prog 26 (.ptr o off) (.agg [x0, x1, x2, x3]) S = (objAt S o).bind fun cells => if off + 4 ≤ cells.length then some (S.set o (.obj (wr cells off [x0, x1, x2, x3]))) else none) := fun h => st_cells dsz26 rfl rfl h
theorem fd26_2 : (∀ {ρ : DEnv} {S : Mem}, opD Tryd.prog ρ (.alloc 26) S = some (.ptr S.length 0, S ++ [.obj [.int .i64 0, .int .i64 0, .int .i64 0, .str ⟨#[]⟩]])) := al_cells dze26 (by simp [scalarV, Value.cells])
theorem fd26_3 : (∀ {o off : Nat}, fieldAtD Tryd.prog 26 (.ptr o off) 0 = some (.ptr o (off + 0))) := by simp [fieldAtD, Tryd.underlying26, dsz2]
theorem fd26_4 : (∀ {c : List D} {off : Nat}, fieldAtD Tryd.prog 26 (.eptr c off) 0 = some (.eptr c (off + 0))) := by simp [fieldAtD, Tryd.underlying26, dsz2]
theorem fd26_5 : (∀ {o off : Nat}, fieldAtD Tryd.prog 26 (.ptr o off) 1 = some (.ptr o (off + 1))) := by simp [fieldAtD, Tryd.underlying26, dsz2]
theorem fd26_6 : (∀ {c : List D} {off : Nat}, fieldAtD Tryd.prog 26 (.eptr c off) 1 = some (.eptr c (off + 1))) := by simp [fieldAtD, Tryd.underlying26, dsz2]
theorem fd26_7 : (∀ {o off : Nat}, fieldAtD Tryd.prog 26 (.ptr o off) 2 = some (.ptr o (off + 2))) := by simp [fieldAtD, Tryd.underlying26, dsz2]
theorem fd26_8 : (∀ {c : List D} {off : Nat}, fieldAtD Tryd.prog 26 (.eptr c off) 2 = some (.eptr c (off + 2))) := by simp [fieldAtD, Tryd.underlying26, dsz2]
theorem fd26_9 : (∀ {o off : Nat}, fieldAtD Tryd.prog 26 (.ptr o off) 3 = some (.ptr o (off + 3))) := by simp [fieldAtD, Tryd.underlying26, dsz9]
theorem fd26_10 : (∀ {c : List D} {off : Nat}, fieldAtD Tryd.prog 26 (.eptr c off) 3 = some (.eptr c (off + 3))) := by simp [fieldAtD, Tryd.underlying26, dsz9]
theorem fd26_11 : (∀ {ps : List (Nat × D)}, buildD Tryd.prog 26 ps = (fillD (fun i => ([(0, 1), (1, 1), (2, 1), (3, 1)] : List (Nat × Nat))[i]?) [.int .i64 0, .int .i64 0, .int .i64 0, .str ⟨#[]⟩] ps).map .agg) := bd_struct Tryd.underlying26 dpl26 dze26 (by simp [scalarV, Value.cells])
theorem fd36_0 : (Tryd.prog.underlying 36 = some (.slice 23)) := Tryd.underlying36
theorem fd36_1 : (∀ {x : D} {S : Mem}, loadD Tryd.prog 36 x S = (cellsAt x S).bind fun p => p.1[p.2]?) := ld_one dag36
theorem fd36_2 : (∀ {o off : Nat} {S : Mem} {v : D}, cellsD v = some [v] → D.one v = true → storeD Tryd.prog 36 (.ptr o off) v S = (objAt S o).bind fun cells => if off + 1 ≤ cells.length then some (S.set o (.obj (wr cells off [v]))) else none) := fun h1 h2 => st_cells dsz36 h1 rfl (by simp [h2])
theorem fd36_3 : (∀ {ρ : DEnv} {S : Mem}, opD Tryd.prog ρ (.alloc 36) S = some (.ptr S.length 0, S ++ [.obj [.nils]])) := al_cells dze36 (by simp [scalarV, Value.cells])
theorem fd36_4 : (∀ {own : Option Nat} {len : Nat} {cells : List D} {k : IntKind} {i : Int}, indexAtD Tryd.prog 36 (.sl own 4 len cells) (.int k i) = if 0 ≤ i ∧ i < len then some (.eptr cells (i.toNat * 4)) else none) := ix_sl Tryd.underlying36 dsz23
theorem fd36_5 : (∀ {own : Option Nat} {len : Nat} {cells : List D} {lo hi mx : Option D}, sliceD Tryd.prog 36 (.sl own 4 len cells) lo hi mx = (optNatD lo).bind fun l => (optNatD hi).bind fun h => (optNatD mx).bind fun m => if m.isSome = true ∧ h.isNone = true then none else cutD own 4 len cells (l.getD 0) (h.getD len) m) := cut_sl Tryd.underlying36 dsz23
theorem fd36_6 : (∀ {n : Nat} {ps : List (Nat × D)} {S : Mem}, buildSliceD Tryd.prog 36 n ps S = if n * 4 > 2 ^ 24 then none else (fillD (fun i => some (i * 4, 4)) (repD [.int .i64 0, .int .i64 0, .int .i64 0, .str ⟨#[]⟩] n) ps).bind fun cells => if cells.all D.one = true then some (.sl (some S.length) 4 n cells, S ++ [.own]) else none) := bs_slice Tryd.underlying36 dsz23 dze23 (by simp [scalarV, Value.cells]) rfl
theorem fd36_7 : (∀ {S : Mem}, appendD Tryd.prog #[36, 36] .nils .nils S = some (.nils, S)) := by intros; exact ap_zero del36 rfl (by simp)
theorem fd36_8 : (∀ {S : Mem}, appendD Tryd.prog #[36, 36] .sl0 .nils S = some (.sl0, S)) := by intros; exact ap_zero del36 rfl (by simp)
theorem fd36_9 : (∀ {own : Option Nat} {len : Nat} {cells : List D} {S : Mem}, appendD Tryd.prog #[36, 36] (.sl own 4 len cells) .nils S = some ((.sl own 4 len cells), S)) := by intros; exact ap_zero del36 rfl (by simp)
theorem fd36_10 : (∀ {S : Mem}, appendD Tryd.prog #[36, 36] .nils .sl0 S = some (.nils, S)) := by intros; exact ap_zero del36 rfl (by simp)
theorem fd36_11 : (∀ {S : Mem}, appendD Tryd.prog #[36, 36] .sl0 .sl0 S = some (.sl0, S)) := by intros; exact ap_zero del36 rfl (by simp)
theorem fd36_12 : (∀ {own : Option Nat} {len : Nat} {cells : List D} {S : Mem}, appendD Tryd.prog #[36, 36] (.sl own 4 len cells) .sl0 S = some ((.sl own 4 len cells), S)) := by intros; exact ap_zero del36 rfl (by simp)
theorem fd36_13 : (∀ {S : Mem}, appendD Tryd.prog #[36, 36] .nils .slx S = some (.nils, S)) := by intros; exact ap_zero del36 rfl (by simp)
theorem fd36_14 : (∀ {S : Mem}, appendD Tryd.prog #[36, 36] .sl0 .slx S = some (.sl0, S)) := by intros; exact ap_zero del36 rfl (by simp)
theorem fd36_15 : (∀ {own : Option Nat} {len : Nat} {cells : List D} {S : Mem}, appendD Tryd.prog #[36, 36] (.sl own 4 len cells) .slx S = some ((.sl own 4 len cells), S)) := by intros; exact ap_zero del36 rfl (by simp)
theorem fd36_16 : (∀ {own : Option Nat} {m : Nat} {new : List D} {S : Mem}, appendD Tryd.prog #[36, 36] .nils (.sl own 4 m new) S = if m = 0 then some (.nils, S) else if fitsD 40 m new then some (.sl (some S.length) 4 m new, S ++ [.own]) else none) := ap_nils del36
theorem fd36_17 : (∀ {own : Option Nat} {m : Nat} {new : List D} {S : Mem}, appendD Tryd.prog #[36, 36] .sl0 (.sl own 4 m new) S = if m = 0 then some (.sl0, S) else if fitsD 40 m new then some (.sl (some S.length) 4 m new, S ++ [.own]) else none) := ap_sl0 del36
theorem fd36_18 : (∀ {own : Option Nat} {id m len : Nat} {cells new : List D} {S : Mem}, appendD Tryd.prog #[36, 36] (.sl (some id) 4 len cells) (.sl own 4 m new) S = if m = 0 then some (.sl (some id) 4 len cells, S) else if fitsD 40 (len + m) new then (match S[id]? with | some .own => some (.sl (some S.length) 4 (len + m) (cells ++ new), S.set id .dead ++ [.own]) | _ => none) else none) := ap_own del36
theorem fd36_19 : (∀ {own : Option Nat} {len : Nat} {cells : List D} {S : Mem}, builtinD Tryd.prog .len #[36] [.sl own 4 len cells] S = some (.int .i64 len, S)) := len_sl rfl Tryd.underlying36
theorem fd36_20 : (∀ {S : Mem}, builtinD Tryd.prog .len #[36] [.nils] S = some (.int .i64 0, S)) := len_nil rfl Tryd.underlying36
theorem fd36_21 : (∀ {x y : Operand}, binD Tryd.prog .eql 36 x y .nils .nils = some (.bool true) ∧ binD Tryd.prog .eql 36 x y .slx .nils = some (.bool false) ∧ (∀ {own sz n cells}, binD Tryd.prog .eql 36 x y (.sl own sz (n + 1) cells) .nils = some (.bool false)) ∧ binD Tryd.prog .neq 36 x y .nils .nils = some (.bool false) ∧ binD Tryd.prog .neq 36 x y .slx .nils = some (.bool true) ∧ (∀ {own sz n cells}, binD Tryd.prog .neq 36 x y (.sl own sz (n + 1) cells) .nils = some (.bool true))) := eq_nils Tryd.underlying36
theorem fd36_22 : (∀ {S : Mem}, builtinD Tryd.prog .len #[36] [.slx] S = some (.int .i64 0, S)) := len_slx rfl Tryd.underlying36
theorem fd36_23 : (∀ {S : Mem}, builtinD Tryd.prog .len #[36] [.sl0] S = some (.int .i64 0, S)) := len_nil0 rfl Tryd.underlying36
theorem fd38_0 : (Tryd.prog.underlying 38 = some (.slice 5)) := Tryd.underlying38
theorem fd38_1 : (∀ {x : D} {S : Mem}, loadD Tryd.prog 38 x S = (cellsAt x S).bind fun p => p.1[p.2]?) := ld_one dag38
theorem fd38_2 : (∀ {o off : Nat} {S : Mem} {v : D}, cellsD v = some [v] → D.one v = true → storeD Tryd.prog 38 (.ptr o off) v S = (objAt S o).bind fun cells => if off + 1 ≤ cells.length then some (S.set o (.obj (wr cells off [v]))) else none) := fun h1 h2 => st_cells dsz38 h1 rfl (by simp [h2])
theorem fd38_3 : (∀ {ρ : DEnv} {S : Mem}, opD Tryd.prog ρ (.alloc 38) S = some (.ptr S.length 0, S ++ [.obj [.nils]])) := al_cells dze38 (by simp [scalarV, Value.cells])
theorem fd38_4 : (∀ {own : Option Nat} {len : Nat} {cells : List D} {k : IntKind} {i : Int}, indexAtD Tryd.prog 38 (.sl own 1 len cells) (.int k i) = if 0 ≤ i ∧ i < len then some (.eptr cells (i.toNat * 1)) else none) := ix_sl Tryd.underlying38 dsz5
theorem fd38_5 : (∀ {own : Option Nat} {len : Nat} {cells : List D} {lo hi mx : Option D}, sliceD Tryd.prog 38 (.sl own 1 len cells) lo hi mx = (optNatD lo).bind fun l => (optNatD hi).bind fun h => (optNatD mx).bind fun m => if m.isSome = true ∧ h.isNone = true then none else cutD own 1 len cells (l.getD 0) (h.getD len) m) := cut_sl Tryd.underlying38 dsz5
theorem fd38_6 : (∀ {n : Nat} {ps : List (Nat × D)} {S : Mem}, buildSliceD Tryd.prog 38 n ps S = if n * 1 > 2 ^ 24 then none else (fillD (fun i => some (i * 1, 1)) (repD [.int .u8 0] n) ps).bind fun cells => if cells.all D.one = true then some (.sl (some S.length) 1 n cells, S ++ [.own]) else none) := bs_slice Tryd.underlying38 dsz5 dze5 (by simp [scalarV, Value.cells]) rfl
theorem fd38_7 : (∀ {S : Mem}, appendD Tryd.prog #[38, 38] .nils .nils S = some (.nils, S)) := by intros; exact ap_zero del38 rfl (by simp)
theorem fd38_8 : (∀ {S : Mem}, appendD Tryd.prog #[38, 38] .sl0 .nils S = some (.sl0, S)) := by intros; exact ap_zero del38 rfl (by simp)
theorem fd38_9 : (∀ {own : Option Nat} {len : Nat} {cells : List D} {S : Mem}, appendD Tryd.prog #[38, 38] (.sl own 1 len cells) .nils S = some ((.sl own 1 len cells), S)) := by intros; exact ap_zero del38 rfl (by simp)
theorem fd38_10 : (∀ {S : Mem}, appendD Tryd.prog #[38, 38] .nils .sl0 S = some (.nils, S)) := by intros; exact ap_zero del38 rfl (by simp)
theorem fd38_11 : (∀ {S : Mem}, appendD Tryd.prog #[38, 38] .sl0 .sl0 S = some (.sl0, S)) := by intros; exact ap_zero del38 rfl (by simp)
theorem fd38_12 : (∀ {own : Option Nat} {len : Nat} {cells : List D} {S : Mem}, appendD Tryd.prog #[38, 38] (.sl own 1 len cells) .sl0 S = some ((.sl own 1 len cells), S)) := by intros; exact ap_zero del38 rfl (by simp)
theorem fd38_13 : (∀ {S : Mem}, appendD Tryd.prog #[38, 38] .nils .slx S = some (.nils, S)) := by intros; exact ap_zero del38 rfl (by simp)
theorem fd38_14 : (∀ {S : Mem}, appendD Tryd.prog #[38, 38] .sl0 .slx S = some (.sl0, S)) := by intros; exact ap_zero del38 rfl (by simp)
theorem fd38_15 : (∀ {own : Option Nat} {len : Nat} {cells : List D} {S : Mem}, appendD Tryd.prog #[38, 38] (.sl own 1 len cells) .slx S = some ((.sl own 1 len cells), S)) := by intros; exact ap_zero del38 rfl (by simp)
theorem fd38_16 : (∀ {own : Option Nat} {m : Nat} {new : List D} {S : Mem}, appendD Tryd.prog #[38, 38] .nils (.sl own 1 m new) S = if m = 0 then some (.nils, S) else if fitsD 1 m new then some (.sl (some S.length) 1 m new, S ++ [.own]) else none) := ap_nils del38
theorem fd38_17 : (∀ {own : Option Nat} {m : Nat} {new : List D} {S : Mem}, appendD Tryd.prog #[38, 38] .sl0 (.sl own 1 m new) S = if m = 0 then some (.sl0, S) else if fitsD 1 m new then some (.sl (some S.length) 1 m new, S ++ [.own]) else none) := ap_sl0 del38
theorem fd38_18 : (∀ {own : Option Nat} {id m len : Nat} {cells new : List D} {S : Mem}, appendD Tryd.prog #[38, 38] (.sl (some id) 1 len cells) (.sl own 1 m new) S = if m = 0 then some (.sl (some id) 1 len cells, S) else if fitsD 1 (len + m) new then (match S[id]? with | some .own => some (.sl (some S.length) 1 (len + m) (cells ++ new), S.set id .dead ++ [.own]) | _ => none) else none) := ap_own del38
theorem fd38_19 : (∀ {own : Option Nat} {len : Nat} {cells : List D} {S : Mem}, builtinD Tryd.prog .len #[38] [.sl own 1 len cells] S = some (.int .i64 len, S)) := len_sl rfl Tryd.underlying38
theorem fd38_20 : (∀ {S : Mem}, builtinD Tryd.prog .len #[38] [.nils] S = some (.int .i64 0, S)) := len_nil rfl Tryd.underlying38
theorem fd38_21 : (∀ {x y : Operand}, binD Tryd.prog .eql 38 x y .nils .nils = some (.bool true) ∧ binD Tryd.prog .eql 38 x y .slx .nils = some (.bool false) ∧ (∀ {own sz n cells}, binD Tryd.prog .eql 38 x y (.sl own sz (n + 1) cells) .nils = some (.bool false)) ∧ binD Tryd.prog .neq 38 x y .nils .nils = some (.bool false) ∧ binD Tryd.prog .neq 38 x y .slx .nils = some (.bool true) ∧ (∀ {own sz n cells}, binD Tryd.prog .neq 38 x y (.sl own sz (n + 1) cells) .nils = some (.bool true))) := eq_nils Tryd.underlying38
theorem fd38_22 : (∀ {S : Mem}, builtinD Tryd.prog .len #[38] [.slx] S = some (.int .i64 0, S)) := len_slx rfl Tryd.underlying38
theorem fd38_23 : (∀ {S : Mem}, builtinD Tryd.prog .len #[38] [.sl0] S = some (.int .i64 0, S)) := len_nil0 rfl Tryd.underlying38
theorem fd51_0 : (Tryd.prog.underlying 51 = some (.slice 9)) := Tryd.underlying51
theorem fd51_1 : (∀ {x : D} {S : Mem}, loadD Tryd.prog 51 x S = (cellsAt x S).bind fun p => p.1[p.2]?) := ld_one dag51
theorem fd51_2 : (∀ {o off : Nat} {S : Mem} {v : D}, cellsD v = some [v] → D.one v = true → storeD Tryd.prog 51 (.ptr o off) v S = (objAt S o).bind fun cells => if off + 1 ≤ cells.length then some (S.set o (.obj (wr cells off [v]))) else none) := fun h1 h2 => st_cells dsz51 h1 rfl (by simp [h2])
theorem fd51_3 : (∀ {ρ : DEnv} {S : Mem}, opD Tryd.prog ρ (.alloc 51) S = some (.ptr S.length 0, S ++ [.obj [.nils]])) := al_cells dze51 (by simp [scalarV, Value.cells])
theorem fd51_4 : (∀ {own : Option Nat} {len : Nat} {cells : List D} {k : IntKind} {i : Int}, indexAtD Tryd.prog 51 (.sl own 1 len cells) (.int k i) = if 0 ≤ i ∧ i < len then some (.eptr cells (i.toNat * 1)) else none) := ix_sl Tryd.underlying51 dsz9
theorem fd51_5 : (∀ {own : Option Nat} {len : Nat} {cells : List D} {lo hi mx : Option D}, sliceD Tryd.prog 51 (.sl own 1 len cells) lo hi mx = (optNatD lo).bind fun l => (optNatD hi).bind fun h => (optNatD mx).bind fun m => if m.isSome = true ∧ h.isNone = true then none else cutD own 1 len cells (l.getD 0) (h.getD len) m) := cut_sl Tryd.underlying51 dsz9
theorem fd51_6 : (∀ {n : Nat} {ps : List (Nat × D)} {S : Mem}, buildSliceD Tryd.prog 51 n ps S = if n * 1 > 2 ^ 24 then none else (fillD (fun i => some (i * 1, 1)) (repD [.str ⟨#[]⟩] n) ps).bind fun cells => if cells.all D.one = true then some (.sl (some S.length) 1 n cells, S ++ [.own]) else none) := bs_slice Tryd.underlying51 dsz9 dze9 (by simp [scalarV, Value.cells]) rfl
theorem fd51_7 : (∀ {S : Mem}, appendD Tryd.prog #[51, 51] .nils .nils S = some (.nils, S)) := by intros; exact ap_zero del51 rfl (by simp)
theorem fd51_8 : (∀ {S : Mem}, appendD Tryd.prog #[51, 51] .sl0 .nils S = some (.sl0, S)) := by intros; exact ap_zero del51 rfl (by simp)
theorem fd51_9 : (∀ {own : Option Nat} {len : Nat} {cells : List D} {S : Mem}, appendD Tryd.prog #[51, 51] (.sl own 1 len cells) .nils S = some ((.sl own 1 len cells), S)) := by intros; exact ap_zero del51 rfl (by simp)
theorem fd51_10 : (∀ {S : Mem}, appendD Tryd.prog #[51, 51] .nils .sl0 S = some (.nils, S)) := by intros; exact ap_zero del51 rfl (by simp)
theorem fd51_11 : (∀ {S : Mem}, appendD Tryd.prog #[51, 51] .sl0 .sl0 S = some (.sl0, S)) := by intros; exact ap_zero del51 rfl (by simp)
theorem fd51_12 : (∀ {own : Option Nat} {len : Nat} {cells : List D} {S : Mem}, appendD Tryd.prog #[51, 51] (.sl own 1 len cells) .sl0 S = some ((.sl own 1 len cells), S)) := by intros; exact ap_zero del51 rfl (by simp)
theorem fd51_13 : (∀ {S : Mem}, appendD Tryd.prog #[51, 51] .nils .slx S = some (.nils, S)) := by intros; exact ap_zero del51 rfl (by simp)
theorem fd51_14 : (∀ {S : Mem}, appendD Tryd.prog #[51, 51] .sl0 .slx S = some (.sl0, S)) := by intros; exact ap_zero del51 rfl (by simp)
theorem fd51_15 : (∀ {own : Option Nat} {len : Nat} {cells : List D} {S : Mem}, appendD Tryd.prog #[51, 51] (.sl own 1 len cells) .slx S = some ((.sl own 1 len cells), S)) := by intros; exact ap_zero del51 rfl (by simp)
theorem fd51_16 : (∀ {own : Option Nat} {m : Nat} {new : List D} {S : Mem}, appendD Tryd.prog #[51, 51] .nils (.sl own 1 m new) S = if m = 0 then some (.nils, S) else if fitsD 16 m new then some (.sl (some S.length) 1 m new, S ++ [.own]) else none) := ap_nils del51
theorem fd51_17 : (∀ {own : Option Nat} {m : Nat} {new : List D} {S : Mem}, appendD Tryd.prog #[51, 51] .sl0 (.sl own 1 m new) S = if m = 0 then some (.sl0, S) else if fitsD 16 m new then some (.sl (some S.length) 1 m new, S ++ [.own]) else none) := ap_sl0 del51
theorem fd51_18 : (∀ {own : Option Nat} {id m len : Nat} {cells new : List D} {S : Mem}, appendD Tryd.prog #[51, 51] (.sl (some id) 1 len cells) (.sl own 1 m new) S = if m = 0 then some (.sl (some id) 1 len cells, S) else if fitsD 16 (len + m) new then (match S[id]? with | some .own => some (.sl (some S.length) 1 (len + m) (cells ++ new), S.set id .dead ++ [.own]) | _ => none) else none) := ap_own del51
theorem fd51_19 : (∀ {own : Option Nat} {len : Nat} {cells : List D} {S : Mem}, builtinD Tryd.prog .len #[51] [.sl own 1 len cells] S = some (.int .i64 len, S)) := len_sl rfl Tryd.underlying51
theorem fd51_20 : (∀ {S : Mem}, builtinD Tryd.prog .len #[51] [.nils] S = some (.int .i64 0, S)) := len_nil rfl Tryd.underlying51
theorem fd51_21 : (∀ {x y : Operand}, binD Tryd.prog .eql 51 x y .nils .nils = some (.bool true) ∧ binD Tryd.prog .eql 51 x y .slx .nils = some (.bool false) ∧ (∀ {own sz n cells}, binD Tryd.prog .eql 51 x y (.sl own sz (n + 1) cells) .nils = some (.bool false)) ∧ binD Tryd.prog .neq 51 x y .nils .nils = some (.bool false) ∧ binD Tryd.prog .neq 51 x y .slx .nils = some (.bool true) ∧ (∀ {own sz n cells}, binD Tryd.prog .neq 51 x y (.sl own sz (n + 1) cells) .nils = some (.bool true))) := eq_nils Tryd.underlying51
theorem fd51_22 : (∀ {S : Mem}, builtinD Tryd.prog .len #[51] [.slx] S = some (.int .i64 0, S)) := len_slx rfl Tryd.underlying51
theorem fd51_23 : (∀ {S : Mem}, builtinD Tryd.prog .len #[51] [.sl0] S = some (.int .i64 0, S)) := len_nil0 rfl Tryd.underlying51
theorem fd64_0 : (Tryd.prog.underlying 64 = some (.slice 3)) := Tryd.underlying64
theorem fd64_1 : (∀ {x : D} {S : Mem}, loadD Tryd.prog 64 x S = (cellsAt x S).bind fun p => p.1[p.2]?) := ld_one dag64
theorem fd64_2 : (∀ {o off : Nat} {S : Mem} {v : D}, cellsD v = some [v] → D.one v = true → storeD Tryd.prog 64 (.ptr o off) v S = (objAt S o).bind fun cells => if off + 1 ≤ cells.length then some (S.set o (.obj (wr cells off [v]))) else none) := fun h1 h2 => st_cells dsz64 h1 rfl (by simp [h2])
theorem fd64_3 : (∀ {ρ : DEnv} {S : Mem}, opD Tryd.prog ρ (.alloc 64) S = some (.ptr S.length 0, S ++ [.obj [.nils]])) := al_cells dze64 (by simp [scalarV, Value.cells])
theorem fd64_4 : (∀ {own : Option Nat} {len : Nat} {cells : List D} {k : IntKind} {i : Int}, indexAtD Tryd.prog 64 (.sl own 1 len cells) (.int k i) = if 0 ≤ i ∧ i < len then some (.eptr cells (i.toNat * 1)) else none) := ix_sl Tryd.underlying64 dsz3
theorem fd64_5 : (∀ {own : Option Nat} {len : Nat} {cells : List D} {lo hi mx : Option D}, sliceD Tryd.prog 64 (.sl own 1 len cells) lo hi mx = (optNatD lo).bind fun l => (optNatD hi).bind fun h => (optNatD mx).bind fun m => if m.isSome = true ∧ h.isNone = true then none else cutD own 1 len cells (l.getD 0) (h.getD len) m) := cut_sl Tryd.underlying64 dsz3
theorem fd64_6 : (∀ {n : Nat} {ps : List (Nat × D)} {S : Mem}, buildSliceD Tryd.prog 64 n ps S = if n * 1 > 2 ^ 24 then none else (fillD (fun i => some (i * 1, 1)) (repD [.int .i64 0] n) ps).bind fun cells => if cells.all D.one = true then some (.sl (some S.length) 1 n cells, S ++ [.own]) else none) := bs_slice Tryd.underlying64 dsz3 dze3 (by simp [scalarV, Value.cells]) rfl
theorem fd64_7 : (∀ {S : Mem}, appendD Tryd.prog #[64, 64] .nils .nils S = some (.nils, S)) := by intros; exact ap_zero del64 rfl (by simp)
theorem fd64_8 : (∀ {S : Mem}, appendD Tryd.prog #[64, 64] .sl0 .nils S = some (.sl0, S)) := by intros; exact ap_zero del64 rfl (by simp)
theorem fd64_9 : (∀ {own : Option Nat} {len : Nat} {cells : List D} {S : Mem}, appendD Tryd.prog #[64, 64] (.sl own 1 len cells) .nils S = some ((.sl own 1 len cells), S)) := by intros; exact ap_zero del64 rfl (by simp)
theorem fd64_10 : (∀ {S : Mem}, appendD Tryd.prog #[64, 64] .nils .sl0 S = some (.nils, S)) := by intros; exact ap_zero del64 rfl (by simp)
theorem fd64_11 : (∀ {S : Mem}, appendD Tryd.prog #[64, 64] .sl0 .sl0 S = some (.sl0, S)) := by intros; exact ap_zero del64 rfl (by simp)
theorem fd64_12 : (∀ {own : Option Nat} {len : Nat} {cells : List D} {S : Mem}, appendD Tryd.prog #[64, 64] (.sl own 1 len cells) .sl0 S = some ((.sl own 1 len cells), S)) := by intros; exact ap_zero del64 rfl (by simp)
theorem fd64_13 : (∀ {S : Mem}, appendD Tryd.prog #[64, 64] .nils .slx S = some (.nils, S)) := by intros; exact ap_zero del64 rfl (by simp)
theorem fd64_14 : (∀ {S : Mem}, appendD Tryd.prog #[64, 64] .sl0 .slx S = some (.sl0, S)) := by intros; exact ap_zero del64 rfl (by simp)
theorem fd64_15 : (∀ {own : Option Nat} {len : Nat} {cells : List D} {S : Mem}, appendD Tryd.prog #[64, 64] (.sl own 1 len cells) .slx S = some ((.sl own 1 len cells), S)) := by intros; exact ap_zero del64 rfl (by simp)
theorem fd64_16 : (∀ {own : Option Nat} {m : Nat} {new : List D} {S : Mem}, appendD Tryd.prog #[64, 64] .nils (.sl own 1 m new) S = if m = 0 then some (.nils, S) else if fitsD 8 m new then some (.sl (some S.length) 1 m new, S ++ [.own]) else none) := ap_nils del64
theorem fd64_17 : (∀ {own : Option Nat} {m : Nat} {new : List D} {S : Mem}, appendD Tryd.prog #[64, 64] .sl0 (.sl own 1 m new) S = if m = 0 then some (.sl0, S) else if fitsD 8 m new then some (.sl (some S.length) 1 m new, S ++ [.own]) else none) := ap_sl0 del64
theorem fd64_18 : (∀ {own : Option Nat} {id m len : Nat} {cells new : List D} {S : Mem}, appendD Tryd.prog #[64, 64] (.sl (some id) 1 len cells) (.sl own 1 m new) S = if m = 0 then some (.sl (some id) 1 len cells, S) else if fitsD 8 (len + m) new then (match S[id]? with | some .own => some (.sl (some S.length) 1 (len + m) (cells ++ new), S.set id .dead ++ [.own]) | _ => none) else none) := ap_own del64
theorem fd64_19 : (∀ {own : Option Nat} {len : Nat} {cells : List D} {S : Mem}, builtinD Tryd.prog .len #[64] [.sl own 1 len cells] S = some (.int .i64 len, S)) := len_sl rfl Tryd.underlying64
theorem fd64_20 : (∀ {S : Mem}, builtinD Tryd.prog .len #[64] [.nils] S = some (.int .i64 0, S)) := len_nil rfl Tryd.underlying64
theorem fd64_21 : (∀ {x y : Operand}, binD Tryd.prog .eql 64 x y .nils .nils = some (.bool true) ∧ binD Tryd.prog .eql 64 x y .slx .nils = some (.bool false) ∧ (∀ {own sz n cells}, binD Tryd.prog .eql 64 x y (.sl own sz (n + 1) cells) .nils = some (.bool false)) ∧ binD Tryd.prog .neq 64 x y .nils .nils = some (.bool false) ∧ binD Tryd.prog .neq 64 x y .slx .nils = some (.bool true) ∧ (∀ {own sz n cells}, binD Tryd.prog .neq 64 x y (.sl own sz (n + 1) cells) .nils = some (.bool true))) := eq_nils Tryd.underlying64
theorem fd64_22 : (∀ {S : Mem}, builtinD Tryd.prog .len #[64] [.slx] S = some (.int .i64 0, S)) := len_slx rfl Tryd.underlying64
theorem fd64_23 : (∀ {S : Mem}, builtinD Tryd.prog .len #[64] [.sl0] S = some (.int .i64 0, S)) := len_nil0 rfl Tryd.underlying64
theorem fd68_0 : (Tryd.prog.underlying 68 = some (.slice 2)) := Tryd.underlying68
theorem fd68_1 : (∀ {x : D} {S : Mem}, loadD Tryd.prog 68 x S = (cellsAt x S).bind fun p => p.1[p.2]?) := ld_one dag68
theorem fd68_2 : (∀ {o off : Nat} {S : Mem} {v : D}, cellsD v = some [v] → D.one v = true → storeD Tryd.prog 68 (.ptr o off) v S = (objAt S o).bind fun cells => if off + 1 ≤ cells.length then some (S.set o (.obj (wr cells off [v]))) else none) := fun h1 h2 => st_cells dsz68 h1 rfl (by simp [h2])
theorem fd68_3 : (∀ {ρ : DEnv} {S : Mem}, opD Tryd.prog ρ (.alloc 68) S = some (.ptr S.length 0, S ++ [.obj [.nils]])) := al_cells dze68 (by simp [scalarV, Value.cells])
theorem fd68_4 : (∀ {own : Option Nat} {len : Nat} {cells : List D} {k : IntKind} {i : Int}, indexAtD Tryd.prog 68 (.sl own 1 len cells) (.int k i) = if 0 ≤ i ∧ i < len then some (.eptr cells (i.toNat * 1)) else none) := ix_sl Tryd.underlying68 dsz2
theorem fd68_5 : (∀ {own : Option Nat} {len : Nat} {cells : List D} {lo hi mx : Option D}, sliceD Tryd.prog 68 (.sl own 1 len cells) lo hi mx = (optNatD lo).bind fun l => (optNatD hi).bind fun h => (optNatD mx).bind fun m => if m.isSome = true ∧ h.isNone = true then none else cutD own 1 len cells (l.getD 0) (h.getD len) m) := cut_sl Tryd.underlying68 dsz2
theorem fd68_6 : (∀ {n : Nat} {ps : List (Nat × D)} {S : Mem}, buildSliceD Tryd.prog 68 n ps S = if n * 1 > 2 ^ 24 then none else (fillD (fun i => some (i * 1, 1)) (repD [.int .i64 0] n) ps).bind fun cells => if cells.all D.one = true then some (.sl (some S.length) 1 n cells, S ++ [.own]) else none) := bs_slice Tryd.underlying68 dsz2 dze2 (by simp [scalarV, Value.cells]) rfl
theorem fd68_7 : (∀ {S : Mem}, appendD Tryd.prog #[68, 68] .nils .nils S = some (.nils, S)) := by intros; exact ap_zero del68 rfl (by simp)
theorem fd68_8 : (∀ {S : Mem}, appendD Tryd.prog #[68, 68] .sl0 .nils S = some (.sl0, S)) := by intros; exact ap_zero del68 rfl (by simp)
theorem fd68_9 : (∀ {own : Option Nat} {len : Nat} {cells : List D} {S : Mem}, appendD Tryd.prog #[68, 68] (.sl own 1 len cells) .nils S = some ((.sl own 1 len cells), S)) := by intros; exact ap_zero del68 rfl (by simp)
theorem fd68_10 : (∀ {S : Mem}, appendD Tryd.prog #[68, 68] .nils .sl0 S = some (.nils, S)) := by intros; exact ap_zero del68 rfl (by simp)
theorem fd68_11 : (∀ {S : Mem}, appendD Tryd.prog #[68, 68] .sl0 .sl0 S = some (.sl0, S)) := by intros; exact ap_zero del68 rfl (by simp)
theorem fd68_12 : (∀ {own : Option Nat} {len : Nat} {cells : List D} {S : Mem}, appendD Tryd.prog #[68, 68] (.sl own 1 len cells) .sl0 S = some ((.sl own 1 len cells), S)) := by intros; exact ap_zero del68 rfl (by simp)
theorem fd68_13 : (∀ {S : Mem}, appendD Tryd.prog #[68, 68] .nils .slx S = some (.nils, S)) := by intros; exact ap_zero del68 rfl (by simp)
theorem fd68_14 : (∀ {S : Mem}, appendD Tryd.prog #[68, 68] .sl0 .slx S = some (.sl0, S)) := by intros; exact ap_zero del68 rfl (by simp)
theorem fd68_15 : (∀ {own : Option Nat} {len : Nat} {cells : List D} {S : Mem}, appendD Tryd.prog #[68, 68] (.sl own 1 len cells) .slx S = some ((.sl own 1 len cells), S)) := by intros; exact ap_zero del68 rfl (by simp)
theorem fd68_16 : (∀ {own : Option Nat} {m : Nat} {new : List D} {S : Mem}, appendD Tryd.prog #[68, 68] .nils (.sl own 1 m new) S = if m = 0 then some (.nils, S) else if fitsD 8 m new then some (.sl (some S.length) 1 m new, S ++ [.own]) else none) := ap_nils del68
theorem fd68_17 : (∀ {own : Option Nat} {m : Nat} {new : List D} {S : Mem}, appendD Tryd.prog #[68, 68] .sl0 (.sl own 1 m new) S = if m = 0 then some (.sl0, S) else if fitsD 8 m new then some (.sl (some S.length) 1 m new, S ++ [.own]) else none) := ap_sl0 del68
theorem fd68_18 : (∀ {own : Option Nat} {id m len : Nat} {cells new : List D} {S : Mem}, appendD Tryd.prog #[68, 68] (.sl (some id) 1 len cells) (.sl own 1 m new) S = if m = 0 then some (.sl (some id) 1 len cells, S) else if fitsD 8 (len + m) new then (match S[id]? with | some .own => some (.sl (some S.length) 1 (len + m) (cells ++ new), S.set id .dead ++ [.own]) | _ => none) else none) := ap_own del68
theorem fd68_19 : (∀ {own : Option Nat} {len : Nat} {cells : List D} {S : Mem}, builtinD Tryd.prog .len #[68] [.sl own 1 len cells] S = some (.int .i64 len, S)) := len_sl rfl Tryd.underlying68
theorem fd68_20 : (∀ {S : Mem}, builtinD Tryd.prog .len #[68] [.nils] S = some (.int .i64 0, S)) := len_nil rfl Tryd.underlying68
theorem fd68_21 : (∀ {x y : Operand}, binD Tryd.prog .eql 68 x y .nils .nils = some (.bool true) ∧ binD Tryd.prog .eql 68 x y .slx .nils = some (.bool false) ∧ (∀ {own sz n cells}, binD Tryd.prog .eql 68 x y (.sl own sz (n + 1) cells) .nils = some (.bool false)) ∧ binD Tryd.prog .neq 68 x y .nils .nils = some (.bool false) ∧ binD Tryd.prog .neq 68 x y .slx .nils = some (.bool true) ∧ (∀ {own sz n cells}, binD Tryd.prog .neq 68 x y (.sl own sz (n + 1) cells) .nils = some (.bool true))) := eq_nils Tryd.underlying68
theorem fd68_22 : (∀ {S : Mem}, builtinD Tryd.prog .len #[68] [.slx] S = some (.int .i64 0, S)) := len_slx rfl Tryd.underlying68
theorem fd68_23 : (∀ {S : Mem}, builtinD Tryd.prog .len #[68] [.sl0] S = some (.int .i64 0, S)) := len_nil0 rfl Tryd.underlying68
end Go.Proofs.DnT
