/- Facts on the types of the program: sizes, fields, places, zeros. -/
import Derived.Test.YtcnjndjahloifaaProg
import Derived.Test.YtcnjndjahloifaaDmWx
import Derived.KernelRfl
set_option linter.unusedSimpArgs false
set_option linter.unusedVariables false
namespace Go.Proofs.DaT
open Go Go.AM Go.DM
set_option maxRecDepth 100000
theorem dag2 : isAggA Try.prog 2 = some false := congrArg (Option.map _) Try.underlying2
theorem dag3 : isAggA Try.prog 3 = some false := congrArg (Option.map _) Try.underlying3
theorem dag4 : isAggA Try.prog 4 = some false := congrArg (Option.map _) Try.underlying4
theorem dag5 : isAggA Try.prog 5 = some false := congrArg (Option.map _) Try.underlying5
theorem dag9 : isAggA Try.prog 9 = some false := congrArg (Option.map _) Try.underlying9
theorem dag22 : isAggA Try.prog 22 = some false := congrArg (Option.map _) Try.underlying22
theorem dag24 : isAggA Try.prog 24 = some true := congrArg (Option.map _) Try.underlying24
theorem dag25 : isAggA Try.prog 25 = some false := congrArg (Option.map _) Try.underlying25
theorem dag26 : isAggA Try.prog 26 = some false := congrArg (Option.map _) Try.underlying26
theorem dag30 : isAggA Try.prog 30 = some false := congrArg (Option.map _) Try.underlying30
theorem dag32 : isAggA Try.prog 32 = some true := congrArg (Option.map _) Try.underlying32
theorem dag34 : isAggA Try.prog 34 = some false := congrArg (Option.map _) Try.underlying34
theorem dag36 : isAggA Try.prog 36 = some false := congrArg (Option.map _) Try.underlying36
theorem dag37 : isAggA Try.prog 37 = some false := congrArg (Option.map _) Try.underlying37
theorem dag39 : isAggA Try.prog 39 = some true := congrArg (Option.map _) Try.underlying39
theorem dag41 : isAggA Try.prog 41 = some true := congrArg (Option.map _) Try.underlying41
theorem dag50 : isAggA Try.prog 50 = some false := congrArg (Option.map _) Try.underlying50
theorem dag56 : isAggA Try.prog 56 = some true := congrArg (Option.map _) Try.underlying56
theorem dag58 : isAggA Try.prog 58 = some false := congrArg (Option.map _) Try.underlying58
theorem dag84 : isAggA Try.prog 84 = some false := congrArg (Option.map _) Try.underlying84
theorem dtys : (tyA Try.prog 2, tyA Try.prog 3, tyA Try.prog 4, tyA Try.prog 5, tyA Try.prog 9, tyA Try.prog 22, tyA Try.prog 24, tyA Try.prog 25, tyA Try.prog 26, tyA Try.prog 30, tyA Try.prog 32, tyA Try.prog 34, tyA Try.prog 36, tyA Try.prog 41, tyA Try.prog 37, tyA Try.prog 39, tyA Try.prog 50, tyA Try.prog 56, tyA Try.prog 58, tyA Try.prog 84, ()) = ((some 1, some 8, some (.int .i64 0), none), (some 1, some 8, some (.int .i64 0), none), (some 1, some 1, some (.bool false), none), (some 1, some 1, some (.int .u8 0), none), (some 1, some 16, some (.string ⟨#[]⟩), none), (some 1, some 24, some (.slice none 0 0), none), (some 4, some 64, some (.agg #[.string ⟨#[]⟩, .string ⟨#[]⟩, .int .i64 0, .slice none 0 0]), some [(0, 1), (1, 1), (2, 1), (3, 1)]), (some 1, some 24, some (.slice none 0 0), none), (some 1, some 2, some (.int .u16 0), none), (some 1, some 24, some (.slice none 0 0), none), (some 4, some 64, some (.agg #[.string ⟨#[]⟩, .string ⟨#[]⟩, .int .i64 0, .slice none 0 0]), some [(0, 1), (1, 1), (2, 1), (3, 1)]), (some 1, some 24, some (.slice none 0 0), none), (some 1, some 24, some (.slice none 0 0), none), (some 5, some 72, some (.agg #[.string ⟨#[]⟩, .int .i64 0, .int .i64 0, .string ⟨#[]⟩, .slice none 0 0]), some [(0, 1), (1, 4)]), (some 1, some 8, some (.int .u64 0), none), (some 4, some 56, some (.agg #[.int .i64 0, .int .i64 0, .string ⟨#[]⟩, .slice none 0 0]), some [(0, 1), (1, 1), (2, 1), (3, 1)]), (some 1, some 24, some (.slice none 0 0), none), (some 2, some 16, some (.agg #[.int .i64 0, .bool false]), some [(0, 1), (1, 1)]), (some 1, some 24, some (.slice none 0 0), none), (some 1, some 8, some (.int .u64 0), none), ()) := by kernel_rfl
theorem dsz2 : sizeA Try.prog 2 = some 1 := congrArg (fun x => x.1.1) dtys
theorem dby2 : (Try.prog.info? 2).map (·.bytes) = some 8 := congrArg (fun x => x.1.2.1) dtys
theorem dze2 : zeroA Try.prog 2 = some (.int .i64 0) := congrArg (fun x => x.1.2.2.1) dtys
theorem dsz3 : sizeA Try.prog 3 = some 1 := congrArg (fun x => x.2.1.1) dtys
theorem dby3 : (Try.prog.info? 3).map (·.bytes) = some 8 := congrArg (fun x => x.2.1.2.1) dtys
theorem dze3 : zeroA Try.prog 3 = some (.int .i64 0) := congrArg (fun x => x.2.1.2.2.1) dtys
theorem dsz4 : sizeA Try.prog 4 = some 1 := congrArg (fun x => x.2.2.1.1) dtys
theorem dby4 : (Try.prog.info? 4).map (·.bytes) = some 1 := congrArg (fun x => x.2.2.1.2.1) dtys
theorem dze4 : zeroA Try.prog 4 = some (.bool false) := congrArg (fun x => x.2.2.1.2.2.1) dtys
theorem dsz5 : sizeA Try.prog 5 = some 1 := congrArg (fun x => x.2.2.2.1.1) dtys
theorem dby5 : (Try.prog.info? 5).map (·.bytes) = some 1 := congrArg (fun x => x.2.2.2.1.2.1) dtys
theorem dze5 : zeroA Try.prog 5 = some (.int .u8 0) := congrArg (fun x => x.2.2.2.1.2.2.1) dtys
theorem dsz9 : sizeA Try.prog 9 = some 1 := congrArg (fun x => x.2.2.2.2.1.1) dtys
theorem dby9 : (Try.prog.info? 9).map (·.bytes) = some 16 := congrArg (fun x => x.2.2.2.2.1.2.1) dtys
theorem dze9 : zeroA Try.prog 9 = some (.string ⟨#[]⟩) := congrArg (fun x => x.2.2.2.2.1.2.2.1) dtys
theorem dsz22 : sizeA Try.prog 22 = some 1 := congrArg (fun x => x.2.2.2.2.2.1.1) dtys
theorem dby22 : (Try.prog.info? 22).map (·.bytes) = some 24 := congrArg (fun x => x.2.2.2.2.2.1.2.1) dtys
theorem dze22 : zeroA Try.prog 22 = some (.slice none 0 0) := congrArg (fun x => x.2.2.2.2.2.1.2.2.1) dtys
theorem dsz24 : sizeA Try.prog 24 = some 4 := congrArg (fun x => x.2.2.2.2.2.2.1.1) dtys
theorem dby24 : (Try.prog.info? 24).map (·.bytes) = some 64 := congrArg (fun x => x.2.2.2.2.2.2.1.2.1) dtys
theorem dze24 : zeroA Try.prog 24 = some (.agg #[.string ⟨#[]⟩, .string ⟨#[]⟩, .int .i64 0, .slice none 0 0]) := congrArg (fun x => x.2.2.2.2.2.2.1.2.2.1) dtys
theorem dpl24 : placesA Try.prog 24 = some [(0, 1), (1, 1), (2, 1), (3, 1)] := congrArg (fun x => x.2.2.2.2.2.2.1.2.2.2) dtys
theorem dsz25 : sizeA Try.prog 25 = some 1 := congrArg (fun x => x.2.2.2.2.2.2.2.1.1) dtys
theorem dby25 : (Try.prog.info? 25).map (·.bytes) = some 24 := congrArg (fun x => x.2.2.2.2.2.2.2.1.2.1) dtys
theorem dze25 : zeroA Try.prog 25 = some (.slice none 0 0) := congrArg (fun x => x.2.2.2.2.2.2.2.1.2.2.1) dtys
theorem dsz26 : sizeA Try.prog 26 = some 1 := congrArg (fun x => x.2.2.2.2.2.2.2.2.1.1) dtys
theorem dby26 : (Try.prog.info? 26).map (·.bytes) = some 2 := congrArg (fun x => x.2.2.2.2.2.2.2.2.1.2.1) dtys
theorem dze26 : zeroA Try.prog 26 = some (.int .u16 0) := congrArg (fun x => x.2.2.2.2.2.2.2.2.1.2.2.1) dtys
theorem dsz30 : sizeA Try.prog 30 = some 1 := congrArg (fun x => x.2.2.2.2.2.2.2.2.2.1.1) dtys
theorem dby30 : (Try.prog.info? 30).map (·.bytes) = some 24 := congrArg (fun x => x.2.2.2.2.2.2.2.2.2.1.2.1) dtys
theorem dze30 : zeroA Try.prog 30 = some (.slice none 0 0) := congrArg (fun x => x.2.2.2.2.2.2.2.2.2.1.2.2.1) dtys
theorem dsz32 : sizeA Try.prog 32 = some 4 := congrArg (fun x => x.2.2.2.2.2.2.2.2.2.2.1.1) dtys
theorem dby32 : (Try.prog.info? 32).map (·.bytes) = some 64 := congrArg (fun x => x.2.2.2.2.2.2.2.2.2.2.1.2.1) dtys
theorem dze32 : zeroA Try.prog 32 = some (.agg #[.string ⟨#[]⟩, .string ⟨#[]⟩, .int .i64 0, .slice none 0 0]) := congrArg (fun x => x.2.2.2.2.2.2.2.2.2.2.1.2.2.1) dtys
theorem dpl32 : placesA Try.prog 32 = some [(0, 1), (1, 1), (2, 1), (3, 1)] := congrArg (fun x => x.2.2.2.2.2.2.2.2.2.2.1.2.2.2) dtys
theorem dsz34 : sizeA Try.prog 34 = some 1 := congrArg (fun x => x.2.2.2.2.2.2.2.2.2.2.2.1.1) dtys
theorem dby34 : (Try.prog.info? 34).map (·.bytes) = some 24 := congrArg (fun x => x.2.2.2.2.2.2.2.2.2.2.2.1.2.1) dtys
theorem dze34 : zeroA Try.prog 34 = some (.slice none 0 0) := congrArg (fun x => x.2.2.2.2.2.2.2.2.2.2.2.1.2.2.1) dtys
theorem dsz36 : sizeA Try.prog 36 = some 1 := congrArg (fun x => x.2.2.2.2.2.2.2.2.2.2.2.2.1.1) dtys
theorem dby36 : (Try.prog.info? 36).map (·.bytes) = some 24 := congrArg (fun x => x.2.2.2.2.2.2.2.2.2.2.2.2.1.2.1) dtys
theorem dze36 : zeroA Try.prog 36 = some (.slice none 0 0) := congrArg (fun x => x.2.2.2.2.2.2.2.2.2.2.2.2.1.2.2.1) dtys
theorem dsz41 : sizeA Try.prog 41 = some 5 := congrArg (fun x => x.2.2.2.2.2.2.2.2.2.2.2.2.2.1.1) dtys
theorem dby41 : (Try.prog.info? 41).map (·.bytes) = some 72 := congrArg (fun x => x.2.2.2.2.2.2.2.2.2.2.2.2.2.1.2.1) dtys
theorem dze41 : zeroA Try.prog 41 = some (.agg #[.string ⟨#[]⟩, .int .i64 0, .int .i64 0, .string ⟨#[]⟩, .slice none 0 0]) := congrArg (fun x => x.2.2.2.2.2.2.2.2.2.2.2.2.2.1.2.2.1) dtys
theorem dpl41 : placesA Try.prog 41 = some [(0, 1), (1, 4)] := congrArg (fun x => x.2.2.2.2.2.2.2.2.2.2.2.2.2.1.2.2.2) dtys
theorem dsz37 : sizeA Try.prog 37 = some 1 := congrArg (fun x => x.2.2.2.2.2.2.2.2.2.2.2.2.2.2.1.1) dtys
theorem dby37 : (Try.prog.info? 37).map (·.bytes) = some 8 := congrArg (fun x => x.2.2.2.2.2.2.2.2.2.2.2.2.2.2.1.2.1) dtys
theorem dze37 : zeroA Try.prog 37 = some (.int .u64 0) := congrArg (fun x => x.2.2.2.2.2.2.2.2.2.2.2.2.2.2.1.2.2.1) dtys
theorem dsz39 : sizeA Try.prog 39 = some 4 := congrArg (fun x => x.2.2.2.2.2.2.2.2.2.2.2.2.2.2.2.1.1) dtys
theorem dby39 : (Try.prog.info? 39).map (·.bytes) = some 56 := congrArg (fun x => x.2.2.2.2.2.2.2.2.2.2.2.2.2.2.2.1.2.1) dtys
theorem dze39 : zeroA Try.prog 39 = some (.agg #[.int .i64 0, .int .i64 0, .string ⟨#[]⟩, .slice none 0 0]) := congrArg (fun x => x.2.2.2.2.2.2.2.2.2.2.2.2.2.2.2.1.2.2.1) dtys
theorem dpl39 : placesA Try.prog 39 = some [(0, 1), (1, 1), (2, 1), (3, 1)] := congrArg (fun x => x.2.2.2.2.2.2.2.2.2.2.2.2.2.2.2.1.2.2.2) dtys
theorem dsz50 : sizeA Try.prog 50 = some 1 := congrArg (fun x => x.2.2.2.2.2.2.2.2.2.2.2.2.2.2.2.2.1.1) dtys
theorem dby50 : (Try.prog.info? 50).map (·.bytes) = some 24 := congrArg (fun x => x.2.2.2.2.2.2.2.2.2.2.2.2.2.2.2.2.1.2.1) dtys
theorem dze50 : zeroA Try.prog 50 = some (.slice none 0 0) := congrArg (fun x => x.2.2.2.2.2.2.2.2.2.2.2.2.2.2.2.2.1.2.2.1) dtys
theorem dsz56 : sizeA Try.prog 56 = some 2 := congrArg (fun x => x.2.2.2.2.2.2.2.2.2.2.2.2.2.2.2.2.2.1.1) dtys
theorem dby56 : (Try.prog.info? 56).map (·.bytes) = some 16 := congrArg (fun x => x.2.2.2.2.2.2.2.2.2.2.2.2.2.2.2.2.2.1.2.1) dtys
theorem dze56 : zeroA Try.prog 56 = some (.agg #[.int .i64 0, .bool false]) := congrArg (fun x => x.2.2.2.2.2.2.2.2.2.2.2.2.2.2.2.2.2.1.2.2.1) dtys
theorem dpl56 : placesA Try.prog 56 = some [(0, 1), (1, 1)] := congrArg (fun x => x.2.2.2.2.2.2.2.2.2.2.2.2.2.2.2.2.2.1.2.2.2) dtys
theorem dsz58 : sizeA Try.prog 58 = some 1 := congrArg (fun x => x.2.2.2.2.2.2.2.2.2.2.2.2.2.2.2.2.2.2.1.1) dtys
theorem dby58 : (Try.prog.info? 58).map (·.bytes) = some 24 := congrArg (fun x => x.2.2.2.2.2.2.2.2.2.2.2.2.2.2.2.2.2.2.1.2.1) dtys
theorem dze58 : zeroA Try.prog 58 = some (.slice none 0 0) := congrArg (fun x => x.2.2.2.2.2.2.2.2.2.2.2.2.2.2.2.2.2.2.1.2.2.1) dtys
theorem dsz84 : sizeA Try.prog 84 = some 1 := congrArg (fun x => x.2.2.2.2.2.2.2.2.2.2.2.2.2.2.2.2.2.2.2.1.1) dtys
theorem dby84 : (Try.prog.info? 84).map (·.bytes) = some 8 := congrArg (fun x => x.2.2.2.2.2.2.2.2.2.2.2.2.2.2.2.2.2.2.2.1.2.1) dtys
theorem dze84 : zeroA Try.prog 84 = some (.int .u64 0) := congrArg (fun x => x.2.2.2.2.2.2.2.2.2.2.2.2.2.2.2.2.2.2.2.1.2.2.1) dtys
theorem del22 : ElemT Try.prog 22 24 4 64 := elemT_at Try.underlying22 dsz24 dby24 dze24 rfl
theorem del25 : ElemT Try.prog 25 2 1 8 := elemT_at Try.underlying25 dsz2 dby2 dze2 rfl
theorem del30 : ElemT Try.prog 30 32 4 64 := elemT_at Try.underlying30 dsz32 dby32 dze32 rfl
theorem del34 : ElemT Try.prog 34 9 1 16 := elemT_at Try.underlying34 dsz9 dby9 dze9 rfl
theorem del36 : ElemT Try.prog 36 41 5 72 := elemT_at Try.underlying36 dsz41 dby41 dze41 rfl
theorem del50 : ElemT Try.prog 50 34 1 24 := elemT_at Try.underlying50 dsz34 dby34 dze34 rfl
theorem del58 : ElemT Try.prog 58 56 2 16 := elemT_at Try.underlying58 dsz56 dby56 dze56 rfl
theorem dmx : Try.prog.follows .mixedOrders = true := by kernel_rfl
theorem fd2_0 : (Try.prog.underlying 2 = some (.int .i64)) := Try.underlying2
theorem fd2_1 : (∀ {x : D} {S : Mem}, loadD Try.prog 2 x S = (cellsAt x S).bind fun p => p.1[p.2]?) := ld_one dag2
theorem fd2_2 : (∀ {o off : Nat} {S : Mem} {v : D}, cellsD v = some [v] → D.one v = true → storeD Try.prog 2 (.ptr o off) v S = (objAt S o).bind fun cells => if off + 1 ≤ cells.length then some (S.set o (.obj (wr cells off [v]))) else none) := fun h1 h2 => st_cells dsz2 h1 rfl (by simp [h2])
theorem fd2_3 : (∀ {ρ : DEnv} {S : Mem}, opD Try.prog ρ (.alloc 2) S = some (.ptr S.length 0, S ++ [.obj [.int .i64 0]])) := al_cells dze2 (by simp [scalarV, Value.cells])
theorem fd2_4 : (∀ {S : Mem} {k : IntKind} {n : Int}, convD Try.prog 2 2 (.int k n) S = some (.int .i64 (IntKind.wrap .i64 n), S)) := conv_int Try.underlying2 Try.underlying2
theorem fd2_5 : (∀ {S : Mem} {k : IntKind} {n : Int}, convD Try.prog 3 2 (.int k n) S = some (.int .i64 (IntKind.wrap .i64 n), S)) := conv_int Try.underlying3 Try.underlying2
theorem fd2_6 : (∀ {S : Mem} {k : IntKind} {n : Int}, convD Try.prog 5 2 (.int k n) S = some (.int .i64 (IntKind.wrap .i64 n), S)) := conv_int Try.underlying5 Try.underlying2
theorem fd2_7 : (∀ {S : Mem} {k : IntKind} {n : Int}, convD Try.prog 26 2 (.int k n) S = some (.int .i64 (IntKind.wrap .i64 n), S)) := conv_int Try.underlying26 Try.underlying2
theorem fd2_8 : (∀ {S : Mem} {k : IntKind} {n : Int}, convD Try.prog 37 2 (.int k n) S = some (.int .i64 (IntKind.wrap .i64 n), S)) := conv_int Try.underlying37 Try.underlying2
theorem fd2_9 : (∀ {S : Mem} {k : IntKind} {n : Int}, convD Try.prog 84 2 (.int k n) S = some (.int .i64 (IntKind.wrap .i64 n), S)) := conv_int Try.underlying84 Try.underlying2
theorem fd3_0 : (Try.prog.underlying 3 = some (.int .i64)) := Try.underlying3
theorem fd3_1 : (∀ {x : D} {S : Mem}, loadD Try.prog 3 x S = (cellsAt x S).bind fun p => p.1[p.2]?) := ld_one dag3
theorem fd3_2 : (∀ {o off : Nat} {S : Mem} {v : D}, cellsD v = some [v] → D.one v = true → storeD Try.prog 3 (.ptr o off) v S = (objAt S o).bind fun cells => if off + 1 ≤ cells.length then some (S.set o (.obj (wr cells off [v]))) else none) := fun h1 h2 => st_cells dsz3 h1 rfl (by simp [h2])
theorem fd3_3 : (∀ {ρ : DEnv} {S : Mem}, opD Try.prog ρ (.alloc 3) S = some (.ptr S.length 0, S ++ [.obj [.int .i64 0]])) := al_cells dze3 (by simp [scalarV, Value.cells])
theorem fd3_4 : (∀ {S : Mem} {k : IntKind} {n : Int}, convD Try.prog 2 3 (.int k n) S = some (.int .i64 (IntKind.wrap .i64 n), S)) := conv_int Try.underlying2 Try.underlying3
theorem fd3_5 : (∀ {S : Mem} {k : IntKind} {n : Int}, convD Try.prog 3 3 (.int k n) S = some (.int .i64 (IntKind.wrap .i64 n), S)) := conv_int Try.underlying3 Try.underlying3
theorem fd3_6 : (∀ {S : Mem} {k : IntKind} {n : Int}, convD Try.prog 5 3 (.int k n) S = some (.int .i64 (IntKind.wrap .i64 n), S)) := conv_int Try.underlying5 Try.underlying3
theorem fd3_7 : (∀ {S : Mem} {k : IntKind} {n : Int}, convD Try.prog 26 3 (.int k n) S = some (.int .i64 (IntKind.wrap .i64 n), S)) := conv_int Try.underlying26 Try.underlying3
theorem fd3_8 : (∀ {S : Mem} {k : IntKind} {n : Int}, convD Try.prog 37 3 (.int k n) S = some (.int .i64 (IntKind.wrap .i64 n), S)) := conv_int Try.underlying37 Try.underlying3
theorem fd3_9 : (∀ {S : Mem} {k : IntKind} {n : Int}, convD Try.prog 84 3 (.int k n) S = some (.int .i64 (IntKind.wrap .i64 n), S)) := conv_int Try.underlying84 Try.underlying3
theorem fd4_0 : (Try.prog.underlying 4 = some (.bool)) := Try.underlying4
theorem fd4_1 : (∀ {x : D} {S : Mem}, loadD Try.prog 4 x S = (cellsAt x S).bind fun p => p.1[p.2]?) := ld_one dag4
theorem fd4_2 : (∀ {o off : Nat} {S : Mem} {v : D}, cellsD v = some [v] → D.one v = true → storeD Try.prog 4 (.ptr o off) v S = (objAt S o).bind fun cells => if off + 1 ≤ cells.length then some (S.set o (.obj (wr cells off [v]))) else none) := fun h1 h2 => st_cells dsz4 h1 rfl (by simp [h2])
theorem fd4_3 : (∀ {ρ : DEnv} {S : Mem}, opD Try.prog ρ (.alloc 4) S = some (.ptr S.length 0, S ++ [.obj [.bool false]])) := al_cells dze4 (by simp [scalarV, Value.cells])
theorem fd4_4 : (∀ {x y : Operand} {a b : Bool}, binD Try.prog .eql 4 x y (.bool a) (.bool b) = some (.bool (a == b)) ∧ binD Try.prog .neq 4 x y (.bool a) (.bool b) = some (.bool !(a == b))) := bin_bool Try.underlying4
theorem fd5_0 : (Try.prog.underlying 5 = some (.int .u8)) := Try.underlying5
theorem fd5_1 : (∀ {x : D} {S : Mem}, loadD Try.prog 5 x S = (cellsAt x S).bind fun p => p.1[p.2]?) := ld_one dag5
theorem fd5_2 : (∀ {o off : Nat} {S : Mem} {v : D}, cellsD v = some [v] → D.one v = true → storeD Try.prog 5 (.ptr o off) v S = (objAt S o).bind fun cells => if off + 1 ≤ cells.length then some (S.set o (.obj (wr cells off [v]))) else none) := fun h1 h2 => st_cells dsz5 h1 rfl (by simp [h2])
theorem fd5_3 : (∀ {ρ : DEnv} {S : Mem}, opD Try.prog ρ (.alloc 5) S = some (.ptr S.length 0, S ++ [.obj [.int .u8 0]])) := al_cells dze5 (by simp [scalarV, Value.cells])
theorem fd5_4 : (∀ {S : Mem} {k : IntKind} {n : Int}, convD Try.prog 2 5 (.int k n) S = some (.int .u8 (IntKind.wrap .u8 n), S)) := conv_int Try.underlying2 Try.underlying5
theorem fd5_5 : (∀ {S : Mem} {k : IntKind} {n : Int}, convD Try.prog 3 5 (.int k n) S = some (.int .u8 (IntKind.wrap .u8 n), S)) := conv_int Try.underlying3 Try.underlying5
theorem fd5_6 : (∀ {S : Mem} {k : IntKind} {n : Int}, convD Try.prog 5 5 (.int k n) S = some (.int .u8 (IntKind.wrap .u8 n), S)) := conv_int Try.underlying5 Try.underlying5
theorem fd5_7 : (∀ {S : Mem} {k : IntKind} {n : Int}, convD Try.prog 26 5 (.int k n) S = some (.int .u8 (IntKind.wrap .u8 n), S)) := conv_int Try.underlying26 Try.underlying5
theorem fd5_8 : (∀ {S : Mem} {k : IntKind} {n : Int}, convD Try.prog 37 5 (.int k n) S = some (.int .u8 (IntKind.wrap .u8 n), S)) := conv_int Try.underlying37 Try.underlying5
theorem fd5_9 : (∀ {S : Mem} {k : IntKind} {n : Int}, convD Try.prog 84 5 (.int k n) S = some (.int .u8 (IntKind.wrap .u8 n), S)) := conv_int Try.underlying84 Try.underlying5
theorem fd9_0 : (Try.prog.underlying 9 = some (.string)) := Try.underlying9
theorem fd9_1 : (∀ {x : D} {S : Mem}, loadD Try.prog 9 x S = (cellsAt x S).bind fun p => p.1[p.2]?) := ld_one dag9
theorem fd9_2 : (∀ {o off : Nat} {S : Mem} {v : D}, cellsD v = some [v] → D.one v = true → storeD Try.prog 9 (.ptr o off) v S = (objAt S o).bind fun cells => if off + 1 ≤ cells.length then some (S.set o (.obj (wr cells off [v]))) else none) := fun h1 h2 => st_cells dsz9 h1 rfl (by simp [h2])
theorem fd9_3 : (∀ {ρ : DEnv} {S : Mem}, opD Try.prog ρ (.alloc 9) S = some (.ptr S.length 0, S ++ [.obj [.str ⟨#[]⟩]])) := al_cells dze9 (by simp [scalarV, Value.cells])
theorem fd9_4 : (∀ {S : Mem} {a : ByteArray}, convD Try.prog 9 9 (.str a) S = some (.str a, S)) := conv_str Try.underlying9 Try.underlying9
theorem fd9_5 : (∀ {s : ByteArray} {lo hi : Option D}, sliceD Try.prog 9 (.str s) lo hi none = (optNatD lo).bind fun l => (optNatD hi).bind fun h => if l.getD 0 ≤ h.getD s.size ∧ h.getD s.size ≤ s.size then some (.str (s.extract (l.getD 0) (h.getD s.size))) else none) := cut_str Try.underlying9
theorem fd9_6 : (∀ {x i : Operand} {ρ : DEnv} {S : Mem}, opD Try.prog ρ (.index 9 x i) S = indexStr (evalD ρ x) (evalD ρ i) S) := ix_str Try.underlying9
theorem fd9_7 : (∀ {s : ByteArray} {S : Mem}, builtinD Try.prog .len #[9] [.str s] S = some (.int .i64 s.size, S)) := len_str rfl Try.underlying9
theorem fd22_0 : (Try.prog.underlying 22 = some (.slice 24)) := Try.underlying22
theorem fd22_1 : (∀ {x : D} {S : Mem}, loadD Try.prog 22 x S = (cellsAt x S).bind fun p => p.1[p.2]?) := ld_one dag22
theorem fd22_2 : (∀ {o off : Nat} {S : Mem} {v : D}, cellsD v = some [v] → D.one v = true → storeD Try.prog 22 (.ptr o off) v S = (objAt S o).bind fun cells => if off + 1 ≤ cells.length then some (S.set o (.obj (wr cells off [v]))) else none) := fun h1 h2 => st_cells dsz22 h1 rfl (by simp [h2])
theorem fd22_3 : (∀ {ρ : DEnv} {S : Mem}, opD Try.prog ρ (.alloc 22) S = some (.ptr S.length 0, S ++ [.obj [.nils]])) := al_cells dze22 (by simp [scalarV, Value.cells])
theorem fd22_4 : (∀ {own : Option Nat} {len : Nat} {cells : List D} {k : IntKind} {i : Int}, indexAtD Try.prog 22 (.sl own 4 len cells) (.int k i) = if 0 ≤ i ∧ i < len then some (.eptr cells (i.toNat * 4)) else none) := ix_sl Try.underlying22 dsz24
theorem fd22_5 : (∀ {own : Option Nat} {len : Nat} {cells : List D} {lo hi mx : Option D}, sliceD Try.prog 22 (.sl own 4 len cells) lo hi mx = (optNatD lo).bind fun l => (optNatD hi).bind fun h => (optNatD mx).bind fun m => if m.isSome = true ∧ h.isNone = true then none else cutD own 4 len cells (l.getD 0) (h.getD len) m) := cut_sl Try.underlying22 dsz24
theorem fd22_6 : (∀ {n : Nat} {ps : List (Nat × D)} {S : Mem}, buildSliceD Try.prog 22 n ps S = if n * 4 > 2 ^ 24 then none else (fillD (fun i => some (i * 4, 4)) (repD [.str ⟨#[]⟩, .str ⟨#[]⟩, .int .i64 0, .nils] n) ps).bind fun cells => if cells.all D.one = true then some (.sl (some S.length) 4 n cells, S ++ [.own]) else none) := bs_slice Try.underlying22 dsz24 dze24 (by simp [scalarV, Value.cells]) rfl
theorem fd22_7 : (∀ {S : Mem}, appendD Try.prog #[22, 22] .nils .nils S = some (.nils, S)) := by intros; exact ap_zero del22 rfl (by simp)
theorem fd22_8 : (∀ {S : Mem}, appendD Try.prog #[22, 22] .sl0 .nils S = some (.sl0, S)) := by intros; exact ap_zero del22 rfl (by simp)
theorem fd22_9 : (∀ {own : Option Nat} {len : Nat} {cells : List D} {S : Mem}, appendD Try.prog #[22, 22] (.sl own 4 len cells) .nils S = some ((.sl own 4 len cells), S)) := by intros; exact ap_zero del22 rfl (by simp)
theorem fd22_10 : (∀ {S : Mem}, appendD Try.prog #[22, 22] .nils .sl0 S = some (.nils, S)) := by intros; exact ap_zero del22 rfl (by simp)
theorem fd22_11 : (∀ {S : Mem}, appendD Try.prog #[22, 22] .sl0 .sl0 S = some (.sl0, S)) := by intros; exact ap_zero del22 rfl (by simp)
theorem fd22_12 : (∀ {own : Option Nat} {len : Nat} {cells : List D} {S : Mem}, appendD Try.prog #[22, 22] (.sl own 4 len cells) .sl0 S = some ((.sl own 4 len cells), S)) := by intros; exact ap_zero del22 rfl (by simp)
theorem fd22_13 : (∀ {S : Mem}, appendD Try.prog #[22, 22] .nils .slx S = some (.nils, S)) := by intros; exact ap_zero del22 rfl (by simp)
theorem fd22_14 : (∀ {S : Mem}, appendD Try.prog #[22, 22] .sl0 .slx S = some (.sl0, S)) := by intros; exact ap_zero del22 rfl (by simp)
theorem fd22_15 : (∀ {own : Option Nat} {len : Nat} {cells : List D} {S : Mem}, appendD Try.prog #[22, 22] (.sl own 4 len cells) .slx S = some ((.sl own 4 len cells), S)) := by intros; exact ap_zero del22 rfl (by simp)
theorem fd22_16 : (∀ {own : Option Nat} {m : Nat} {new : List D} {S : Mem}, appendD Try.prog #[22, 22] .nils (.sl own 4 m new) S = if m = 0 then some (.nils, S) else if fitsD 64 m new then some (.sl (some S.length) 4 m new, S ++ [.own]) else none) := ap_nils del22
theorem fd22_17 : (∀ {own : Option Nat} {m : Nat} {new : List D} {S : Mem}, appendD Try.prog #[22, 22] .sl0 (.sl own 4 m new) S = if m = 0 then some (.sl0, S) else if fitsD 64 m new then some (.sl (some S.length) 4 m new, S ++ [.own]) else none) := ap_sl0 del22
theorem fd22_18 : (∀ {own : Option Nat} {id m len : Nat} {cells new : List D} {S : Mem}, appendD Try.prog #[22, 22] (.sl (some id) 4 len cells) (.sl own 4 m new) S = if m = 0 then some (.sl (some id) 4 len cells, S) else if fitsD 64 (len + m) new then (match S[id]? with | some .own => some (.sl (some S.length) 4 (len + m) (cells ++ new), S.set id .dead ++ [.own]) | _ => none) else none) := ap_own del22
theorem fd22_19 : (∀ {own : Option Nat} {len : Nat} {cells : List D} {S : Mem}, builtinD Try.prog .len #[22] [.sl own 4 len cells] S = some (.int .i64 len, S)) := len_sl rfl Try.underlying22
theorem fd22_20 : (∀ {S : Mem}, builtinD Try.prog .len #[22] [.nils] S = some (.int .i64 0, S)) := len_nil rfl Try.underlying22
theorem fd22_21 : (∀ {x y : Operand}, binD Try.prog .eql 22 x y .nils .nils = some (.bool true) ∧ binD Try.prog .eql 22 x y .slx .nils = some (.bool false) ∧ (∀ {own sz n cells}, binD Try.prog .eql 22 x y (.sl own sz (n + 1) cells) .nils = some (.bool false)) ∧ binD Try.prog .neq 22 x y .nils .nils = some (.bool false) ∧ binD Try.prog .neq 22 x y .slx .nils = some (.bool true) ∧ (∀ {own sz n cells}, binD Try.prog .neq 22 x y (.sl own sz (n + 1) cells) .nils = some (.bool true))) := eq_nils Try.underlying22
theorem fd22_22 : (∀ {S : Mem}, builtinD Try.prog .len #[22] [.slx] S = some (.int .i64 0, S)) := len_slx rfl Try.underlying22
theorem fd22_23 : (∀ {S : Mem}, builtinD Try.prog .len #[22] [.sl0] S = some (.int .i64 0, S)) := len_nil0 rfl Try.underlying22
theorem fd24_0 : (∀ {x : D} {S : Mem}, loadD Try.prog 24 x S = (cellsAt x S).bind fun p => if p.2 + 4 ≤ p.1.length then some (.agg ((p.1.drop p.2).take 4)) else none) := ld_agg dag24 dsz24
theorem fd24_1 : (∀ {o off : Nat} {S : Mem} {x0 x1 x2 x3 : D}, ([x0, x1, x2, x3] : List D).all D.one = true → storeD Try.prog 24 (.ptr o off) (.agg [x0, x1, x2, x3]) S = (objAt S o).bind fun cells => if off + 4 ≤ cells.length then some (S.set o (.obj (wr cells off [x0, x1, x2, x3]))) else none) := fun h => st_cells dsz24 rfl rfl h
theorem fd24_2 : (∀ {ρ : DEnv} {S : Mem}, opD Try.prog ρ (.alloc 24) S = some (.ptr S.length 0, S ++ [.obj [.str ⟨#[]⟩, .str ⟨#[]⟩, .int .i64 0, .nils]])) := al_cells dze24 (by simp [scalarV, Value.cells])
theorem fd24_3 : (∀ {o off : Nat}, fieldAtD Try.prog 24 (.ptr o off) 0 = some (.ptr o (off + 0))) := by simp [fieldAtD, Try.underlying24, dsz9]
theorem fd24_4 : (∀ {c : List D} {off : Nat}, fieldAtD Try.prog 24 (.eptr c off) 0 = some (.eptr c (off + 0))) := by simp [fieldAtD, Try.underlying24, dsz9]
theorem fd24_5 : (∀ {o off : Nat}, fieldAtD Try.prog 24 (.ptr o off) 1 = some (.ptr o (off + 1))) := by simp [fieldAtD, Try.underlying24, dsz9]
theorem fd24_6 : (∀ {c : List D} {off : Nat}, fieldAtD Try.prog 24 (.eptr c off) 1 = some (.eptr c (off + 1))) := by simp [fieldAtD, Try.underlying24, dsz9]
theorem fd24_7 : (∀ {o off : Nat}, fieldAtD Try.prog 24 (.ptr o off) 2 = some (.ptr o (off + 2))) := by simp [fieldAtD, Try.underlying24, dsz2]
theorem fd24_8 : (∀ {c : List D} {off : Nat}, fieldAtD Try.prog 24 (.eptr c off) 2 = some (.eptr c (off + 2))) := by simp [fieldAtD, Try.underlying24, dsz2]
theorem fd24_9 : (∀ {o off : Nat}, fieldAtD Try.prog 24 (.ptr o off) 3 = some (.ptr o (off + 3))) := by simp [fieldAtD, Try.underlying24, dsz22]
theorem fd24_10 : (∀ {c : List D} {off : Nat}, fieldAtD Try.prog 24 (.eptr c off) 3 = some (.eptr c (off + 3))) := by simp [fieldAtD, Try.underlying24, dsz22]
theorem fd24_11 : (∀ {ps : List (Nat × D)}, buildD Try.prog 24 ps = (fillD (fun i => ([(0, 1), (1, 1), (2, 1), (3, 1)] : List (Nat × Nat))[i]?) [.str ⟨#[]⟩, .str ⟨#[]⟩, .int .i64 0, .nils] ps).map .agg) := bd_struct Try.underlying24 dpl24 dze24 (by simp [scalarV, Value.cells])
theorem fd25_0 : (Try.prog.underlying 25 = some (.slice 2)) := Try.underlying25
theorem fd25_1 : (∀ {x : D} {S : Mem}, loadD Try.prog 25 x S = (cellsAt x S).bind fun p => p.1[p.2]?) := ld_one dag25
theorem fd25_2 : (∀ {o off : Nat} {S : Mem} {v : D}, cellsD v = some [v] → D.one v = true → storeD Try.prog 25 (.ptr o off) v S = (objAt S o).bind fun cells => if off + 1 ≤ cells.length then some (S.set o (.obj (wr cells off [v]))) else none) := fun h1 h2 => st_cells dsz25 h1 rfl (by simp [h2])
theorem fd25_3 : (∀ {ρ : DEnv} {S : Mem}, opD Try.prog ρ (.alloc 25) S = some (.ptr S.length 0, S ++ [.obj [.nils]])) := al_cells dze25 (by simp [scalarV, Value.cells])
theorem fd25_4 : (∀ {own : Option Nat} {len : Nat} {cells : List D} {k : IntKind} {i : Int}, indexAtD Try.prog 25 (.sl own 1 len cells) (.int k i) = if 0 ≤ i ∧ i < len then some (.eptr cells (i.toNat * 1)) else none) := ix_sl Try.underlying25 dsz2
theorem fd25_5 : (∀ {own : Option Nat} {len : Nat} {cells : List D} {lo hi mx : Option D}, sliceD Try.prog 25 (.sl own 1 len cells) lo hi mx = (optNatD lo).bind fun l => (optNatD hi).bind fun h => (optNatD mx).bind fun m => if m.isSome = true ∧ h.isNone = true then none else cutD own 1 len cells (l.getD 0) (h.getD len) m) := cut_sl Try.underlying25 dsz2
theorem fd25_6 : (∀ {n : Nat} {ps : List (Nat × D)} {S : Mem}, buildSliceD Try.prog 25 n ps S = if n * 1 > 2 ^ 24 then none else (fillD (fun i => some (i * 1, 1)) (repD [.int .i64 0] n) ps).bind fun cells => if cells.all D.one = true then some (.sl (some S.length) 1 n cells, S ++ [.own]) else none) := bs_slice Try.underlying25 dsz2 dze2 (by simp [scalarV, Value.cells]) rfl
theorem fd25_7 : (∀ {S : Mem}, appendD Try.prog #[25, 25] .nils .nils S = some (.nils, S)) := by intros; exact ap_zero del25 rfl (by simp)
theorem fd25_8 : (∀ {S : Mem}, appendD Try.prog #[25, 25] .sl0 .nils S = some (.sl0, S)) := by intros; exact ap_zero del25 rfl (by simp)
theorem fd25_9 : (∀ {own : Option Nat} {len : Nat} {cells : List D} {S : Mem}, appendD Try.prog #[25, 25] (.sl own 1 len cells) .nils S = some ((.sl own 1 len cells), S)) := by intros; exact ap_zero del25 rfl (by simp)
theorem fd25_10 : (∀ {S : Mem}, appendD Try.prog #[25, 25] .nils .sl0 S = some (.nils, S)) := by intros; exact ap_zero del25 rfl (by simp)
theorem fd25_11 : (∀ {S : Mem}, appendD Try.prog #[25, 25] .sl0 .sl0 S = some (.sl0, S)) := by intros; exact ap_zero del25 rfl (by simp)
theorem fd25_12 : (∀ {own : Option Nat} {len : Nat} {cells : List D} {S : Mem}, appendD Try.prog #[25, 25] (.sl own 1 len cells) .sl0 S = some ((.sl own 1 len cells), S)) := by intros; exact ap_zero del25 rfl (by simp)
theorem fd25_13 : (∀ {S : Mem}, appendD Try.prog #[25, 25] .nils .slx S = some (.nils, S)) := by intros; exact ap_zero del25 rfl (by simp)
theorem fd25_14 : (∀ {S : Mem}, appendD Try.prog #[25, 25] .sl0 .slx S = some (.sl0, S)) := by intros; exact ap_zero del25 rfl (by simp)
theorem fd25_15 : (∀ {own : Option Nat} {len : Nat} {cells : List D} {S : Mem}, appendD Try.prog #[25, 25] (.sl own 1 len cells) .slx S = some ((.sl own 1 len cells), S)) := by intros; exact ap_zero del25 rfl (by simp)
theorem fd25_16 : (∀ {own : Option Nat} {m : Nat} {new : List D} {S : Mem}, appendD Try.prog #[25, 25] .nils (.sl own 1 m new) S = if m = 0 then some (.nils, S) else if fitsD 8 m new then some (.sl (some S.length) 1 m new, S ++ [.own]) else none) := ap_nils del25
theorem fd25_17 : (∀ {own : Option Nat} {m : Nat} {new : List D} {S : Mem}, appendD Try.prog #[25, 25] .sl0 (.sl own 1 m new) S = if m = 0 then some (.sl0, S) else if fitsD 8 m new then some (.sl (some S.length) 1 m new, S ++ [.own]) else none) := ap_sl0 del25
theorem fd25_18 : (∀ {own : Option Nat} {id m len : Nat} {cells new : List D} {S : Mem}, appendD Try.prog #[25, 25] (.sl (some id) 1 len cells) (.sl own 1 m new) S = if m = 0 then some (.sl (some id) 1 len cells, S) else if fitsD 8 (len + m) new then (match S[id]? with | some .own => some (.sl (some S.length) 1 (len + m) (cells ++ new), S.set id .dead ++ [.own]) | _ => none) else none) := ap_own del25
theorem fd25_19 : (∀ {own : Option Nat} {len : Nat} {cells : List D} {S : Mem}, builtinD Try.prog .len #[25] [.sl own 1 len cells] S = some (.int .i64 len, S)) := len_sl rfl Try.underlying25
theorem fd25_20 : (∀ {S : Mem}, builtinD Try.prog .len #[25] [.nils] S = some (.int .i64 0, S)) := len_nil rfl Try.underlying25
theorem fd25_21 : (∀ {x y : Operand}, binD Try.prog .eql 25 x y .nils .nils = some (.bool true) ∧ binD Try.prog .eql 25 x y .slx .nils = some (.bool false) ∧ (∀ {own sz n cells}, binD Try.prog .eql 25 x y (.sl own sz (n + 1) cells) .nils = some (.bool false)) ∧ binD Try.prog .neq 25 x y .nils .nils = some (.bool false) ∧ binD Try.prog .neq 25 x y .slx .nils = some (.bool true) ∧ (∀ {own sz n cells}, binD Try.prog .neq 25 x y (.sl own sz (n + 1) cells) .nils = some (.bool true))) := eq_nils Try.underlying25
theorem fd25_22 : (∀ {S : Mem}, builtinD Try.prog .len #[25] [.slx] S = some (.int .i64 0, S)) := len_slx rfl Try.underlying25
theorem fd25_23 : (∀ {S : Mem}, builtinD Try.prog .len #[25] [.sl0] S = some (.int .i64 0, S)) := len_nil0 rfl Try.underlying25
theorem fd26_0 : (Try.prog.underlying 26 = some (.int .u16)) := Try.underlying26
theorem fd26_1 : (∀ {x : D} {S : Mem}, loadD Try.prog 26 x S = (cellsAt x S).bind fun p => p.1[p.2]?) := ld_one dag26
theorem fd26_2 : (∀ {o off : Nat} {S : Mem} {v : D}, cellsD v = some [v] → D.one v = true → storeD Try.prog 26 (.ptr o off) v S = (objAt S o).bind fun cells => if off + 1 ≤ cells.length then some (S.set o (.obj (wr cells off [v]))) else none) := fun h1 h2 => st_cells dsz26 h1 rfl (by simp [h2])
theorem fd26_3 : (∀ {ρ : DEnv} {S : Mem}, opD Try.prog ρ (.alloc 26) S = some (.ptr S.length 0, S ++ [.obj [.int .u16 0]])) := al_cells dze26 (by simp [scalarV, Value.cells])
theorem fd26_4 : (∀ {S : Mem} {k : IntKind} {n : Int}, convD Try.prog 2 26 (.int k n) S = some (.int .u16 (IntKind.wrap .u16 n), S)) := conv_int Try.underlying2 Try.underlying26
theorem fd26_5 : (∀ {S : Mem} {k : IntKind} {n : Int}, convD Try.prog 3 26 (.int k n) S = some (.int .u16 (IntKind.wrap .u16 n), S)) := conv_int Try.underlying3 Try.underlying26
theorem fd26_6 : (∀ {S : Mem} {k : IntKind} {n : Int}, convD Try.prog 5 26 (.int k n) S = some (.int .u16 (IntKind.wrap .u16 n), S)) := conv_int Try.underlying5 Try.underlying26
theorem fd26_7 : (∀ {S : Mem} {k : IntKind} {n : Int}, convD Try.prog 26 26 (.int k n) S = some (.int .u16 (IntKind.wrap .u16 n), S)) := conv_int Try.underlying26 Try.underlying26
theorem fd26_8 : (∀ {S : Mem} {k : IntKind} {n : Int}, convD Try.prog 37 26 (.int k n) S = some (.int .u16 (IntKind.wrap .u16 n), S)) := conv_int Try.underlying37 Try.underlying26
theorem fd26_9 : (∀ {S : Mem} {k : IntKind} {n : Int}, convD Try.prog 84 26 (.int k n) S = some (.int .u16 (IntKind.wrap .u16 n), S)) := conv_int Try.underlying84 Try.underlying26
theorem fd30_0 : (Try.prog.underlying 30 = some (.slice 32)) := Try.underlying30
theorem fd30_1 : (∀ {x : D} {S : Mem}, loadD Try.prog 30 x S = (cellsAt x S).bind fun p => p.1[p.2]?) := ld_one dag30
theorem fd30_2 : (∀ {o off : Nat} {S : Mem} {v : D}, cellsD v = some [v] → D.one v = true → storeD Try.prog 30 (.ptr o off) v S = (objAt S o).bind fun cells => if off + 1 ≤ cells.length then some (S.set o (.obj (wr cells off [v]))) else none) := fun h1 h2 => st_cells dsz30 h1 rfl (by simp [h2])
theorem fd30_3 : (∀ {ρ : DEnv} {S : Mem}, opD Try.prog ρ (.alloc 30) S = some (.ptr S.length 0, S ++ [.obj [.nils]])) := al_cells dze30 (by simp [scalarV, Value.cells])
theorem fd30_4 : (∀ {own : Option Nat} {len : Nat} {cells : List D} {k : IntKind} {i : Int}, indexAtD Try.prog 30 (.sl own 4 len cells) (.int k i) = if 0 ≤ i ∧ i < len then some (.eptr cells (i.toNat * 4)) else none) := ix_sl Try.underlying30 dsz32
theorem fd30_5 : (∀ {own : Option Nat} {len : Nat} {cells : List D} {lo hi mx : Option D}, sliceD Try.prog 30 (.sl own 4 len cells) lo hi mx = (optNatD lo).bind fun l => (optNatD hi).bind fun h => (optNatD mx).bind fun m => if m.isSome = true ∧ h.isNone = true then none else cutD own 4 len cells (l.getD 0) (h.getD len) m) := cut_sl Try.underlying30 dsz32
theorem fd30_6 : (∀ {n : Nat} {ps : List (Nat × D)} {S : Mem}, buildSliceD Try.prog 30 n ps S = if n * 4 > 2 ^ 24 then none else (fillD (fun i => some (i * 4, 4)) (repD [.str ⟨#[]⟩, .str ⟨#[]⟩, .int .i64 0, .nils] n) ps).bind fun cells => if cells.all D.one = true then some (.sl (some S.length) 4 n cells, S ++ [.own]) else none) := bs_slice Try.underlying30 dsz32 dze32 (by simp [scalarV, Value.cells]) rfl
theorem fd30_7 : (∀ {S : Mem}, appendD Try.prog #[30, 30] .nils .nils S = some (.nils, S)) := by intros; exact ap_zero del30 rfl (by simp)
theorem fd30_8 : (∀ {S : Mem}, appendD Try.prog #[30, 30] .sl0 .nils S = some (.sl0, S)) := by intros; exact ap_zero del30 rfl (by simp)
theorem fd30_9 : (∀ {own : Option Nat} {len : Nat} {cells : List D} {S : Mem}, appendD Try.prog #[30, 30] (.sl own 4 len cells) .nils S = some ((.sl own 4 len cells), S)) := by intros; exact ap_zero del30 rfl (by simp)
theorem fd30_10 : (∀ {S : Mem}, appendD Try.prog #[30, 30] .nils .sl0 S = some (.nils, S)) := by intros; exact ap_zero del30 rfl (by simp)
theorem fd30_11 : (∀ {S : Mem}, appendD Try.prog #[30, 30] .sl0 .sl0 S = some (.sl0, S)) := by intros; exact ap_zero del30 rfl (by simp)
theorem fd30_12 : (∀ {own : Option Nat} {len : Nat} {cells : List D} {S : Mem}, appendD Try.prog #[30, 30] (.sl own 4 len cells) .sl0 S = some ((.sl own 4 len cells), S)) := by intros; exact ap_zero del30 rfl (by simp)
theorem fd30_13 : (∀ {S : Mem}, appendD Try.prog #[30, 30] .nils .slx S = some (.nils, S)) := by intros; exact ap_zero del30 rfl (by simp)
theorem fd30_14 : (∀ {S : Mem}, appendD Try.prog #[30, 30] .sl0 .slx S = some (.sl0, S)) := by intros; exact ap_zero del30 rfl (by simp)
theorem fd30_15 : (∀ {own : Option Nat} {len : Nat} {cells : List D} {S : Mem}, appendD Try.prog #[30, 30] (.sl own 4 len cells) .slx S = some ((.sl own 4 len cells), S)) := by intros; exact ap_zero del30 rfl (by simp)
theorem fd30_16 : (∀ {own : Option Nat} {m : Nat} {new : List D} {S : Mem}, appendD Try.prog #[30, 30] .nils (.sl own 4 m new) S = if m = 0 then some (.nils, S) else if fitsD 64 m new then some (.sl (some S.length) 4 m new, S ++ [.own]) else none) := ap_nils del30
theorem fd30_17 : (∀ {own : Option Nat} {m : Nat} {new : List D} {S : Mem}, appendD Try.prog #[30, 30] .sl0 (.sl own 4 m new) S = if m = 0 then some (.sl0, S) else if fitsD 64 m new then some (.sl (some S.length) 4 m new, S ++ [.own]) else none) := ap_sl0 del30
theorem fd30_18 : (∀ {own : Option Nat} {id m len : Nat} {cells new : List D} {S : Mem}, appendD Try.prog #[30, 30] (.sl (some id) 4 len cells) (.sl own 4 m new) S = if m = 0 then some (.sl (some id) 4 len cells, S) else if fitsD 64 (len + m) new then (match S[id]? with | some .own => some (.sl (some S.length) 4 (len + m) (cells ++ new), S.set id .dead ++ [.own]) | _ => none) else none) := ap_own del30
theorem fd30_19 : (∀ {own : Option Nat} {len : Nat} {cells : List D} {S : Mem}, builtinD Try.prog .len #[30] [.sl own 4 len cells] S = some (.int .i64 len, S)) := len_sl rfl Try.underlying30
theorem fd30_20 : (∀ {S : Mem}, builtinD Try.prog .len #[30] [.nils] S = some (.int .i64 0, S)) := len_nil rfl Try.underlying30
theorem fd30_21 : (∀ {x y : Operand}, binD Try.prog .eql 30 x y .nils .nils = some (.bool true) ∧ binD Try.prog .eql 30 x y .slx .nils = some (.bool false) ∧ (∀ {own sz n cells}, binD Try.prog .eql 30 x y (.sl own sz (n + 1) cells) .nils = some (.bool false)) ∧ binD Try.prog .neq 30 x y .nils .nils = some (.bool false) ∧ binD Try.prog .neq 30 x y .slx .nils = some (.bool true) ∧ (∀ {own sz n cells}, binD Try.prog .neq 30 x y (.sl own sz (n + 1) cells) .nils = some (.bool true))) := eq_nils Try.underlying30
theorem fd30_22 : (∀ {S : Mem}, builtinD Try.prog .len #[30] [.slx] S = some (.int .i64 0, S)) := len_slx rfl Try.underlying30
theorem fd30_23 : (∀ {S : Mem}, builtinD Try.prog .len #[30] [.sl0] S = some (.int .i64 0, S)) := len_nil0 rfl Try.underlying30
theorem fd32_0 : (∀ {x : D} {S : Mem}, loadD Try.prog 32 x S = (cellsAt x S).bind fun p => if p.2 + 4 ≤ p.1.length then some (.agg ((p.1.drop p.2).take 4)) else none) := ld_agg dag32 dsz32
theorem fd32_1 : (∀ {o off : Nat} {S : Mem} {x0 x1 x2 x3 : D}, ([x0, x1, x2, x3] : List D).all D.one = true → storeD Try.prog 32 (.ptr o off) (.agg [x0, x1, x2, x3]) S = (objAt S o).bind fun cells => if off + 4 ≤ cells.length then some (S.set o (.obj (wr cells off [x0, x1, x2, x3]))) else none) := fun h => st_cells dsz32 rfl rfl h
theorem fd32_2 : (∀ {ρ : DEnv} {S : Mem}, opD Try.prog ρ (.alloc 32) S = some (.ptr S.length 0, S ++ [.obj [.str ⟨#[]⟩, .str ⟨#[]⟩, .int .i64 0, .nils]])) := al_cells dze32 (by simp [scalarV, Value.cells])
theorem fd32_3 : (∀ {o off : Nat}, fieldAtD Try.prog 32 (.ptr o off) 0 = some (.ptr o (off + 0))) := by simp [fieldAtD, Try.underlying32, dsz9]
theorem fd32_4 : (∀ {c : List D} {off : Nat}, fieldAtD Try.prog 32 (.eptr c off) 0 = some (.eptr c (off + 0))) := by simp [fieldAtD, Try.underlying32, dsz9]
theorem fd32_5 : (∀ {o off : Nat}, fieldAtD Try.prog 32 (.ptr o off) 1 = some (.ptr o (off + 1))) := by simp [fieldAtD, Try.underlying32, dsz9]
theorem fd32_6 : (∀ {c : List D} {off : Nat}, fieldAtD Try.prog 32 (.eptr c off) 1 = some (.eptr c (off + 1))) := by simp [fieldAtD, Try.underlying32, dsz9]
theorem fd32_7 : (∀ {o off : Nat}, fieldAtD Try.prog 32 (.ptr o off) 2 = some (.ptr o (off + 2))) := by simp [fieldAtD, Try.underlying32, dsz2]
theorem fd32_8 : (∀ {c : List D} {off : Nat}, fieldAtD Try.prog 32 (.eptr c off) 2 = some (.eptr c (off + 2))) := by simp [fieldAtD, Try.underlying32, dsz2]
theorem fd32_9 : (∀ {o off : Nat}, fieldAtD Try.prog 32 (.ptr o off) 3 = some (.ptr o (off + 3))) := by simp [fieldAtD, Try.underlying32, dsz30]
theorem fd32_10 : (∀ {c : List D} {off : Nat}, fieldAtD Try.prog 32 (.eptr c off) 3 = some (.eptr c (off + 3))) := by simp [fieldAtD, Try.underlying32, dsz30]
theorem fd32_11 : (∀ {ps : List (Nat × D)}, buildD Try.prog 32 ps = (fillD (fun i => ([(0, 1), (1, 1), (2, 1), (3, 1)] : List (Nat × Nat))[i]?) [.str ⟨#[]⟩, .str ⟨#[]⟩, .int .i64 0, .nils] ps).map .agg) := bd_struct Try.underlying32 dpl32 dze32 (by simp [scalarV, Value.cells])
theorem fd34_0 : (Try.prog.underlying 34 = some (.slice 9)) := Try.underlying34
theorem fd34_1 : (∀ {x : D} {S : Mem}, loadD Try.prog 34 x S = (cellsAt x S).bind fun p => p.1[p.2]?) := ld_one dag34
theorem fd34_2 : (∀ {o off : Nat} {S : Mem} {v : D}, cellsD v = some [v] → D.one v = true → storeD Try.prog 34 (.ptr o off) v S = (objAt S o).bind fun cells => if off + 1 ≤ cells.length then some (S.set o (.obj (wr cells off [v]))) else none) := fun h1 h2 => st_cells dsz34 h1 rfl (by simp [h2])
theorem fd34_3 : (∀ {ρ : DEnv} {S : Mem}, opD Try.prog ρ (.alloc 34) S = some (.ptr S.length 0, S ++ [.obj [.nils]])) := al_cells dze34 (by simp [scalarV, Value.cells])
theorem fd34_4 : (∀ {own : Option Nat} {len : Nat} {cells : List D} {k : IntKind} {i : Int}, indexAtD Try.prog 34 (.sl own 1 len cells) (.int k i) = if 0 ≤ i ∧ i < len then some (.eptr cells (i.toNat * 1)) else none) := ix_sl Try.underlying34 dsz9
theorem fd34_5 : (∀ {own : Option Nat} {len : Nat} {cells : List D} {lo hi mx : Option D}, sliceD Try.prog 34 (.sl own 1 len cells) lo hi mx = (optNatD lo).bind fun l => (optNatD hi).bind fun h => (optNatD mx).bind fun m => if m.isSome = true ∧ h.isNone = true then none else cutD own 1 len cells (l.getD 0) (h.getD len) m) := cut_sl Try.underlying34 dsz9
theorem fd34_6 : (∀ {n : Nat} {ps : List (Nat × D)} {S : Mem}, buildSliceD Try.prog 34 n ps S = if n * 1 > 2 ^ 24 then none else (fillD (fun i => some (i * 1, 1)) (repD [.str ⟨#[]⟩] n) ps).bind fun cells => if cells.all D.one = true then some (.sl (some S.length) 1 n cells, S ++ [.own]) else none) := bs_slice Try.underlying34 dsz9 dze9 (by simp [scalarV, Value.cells]) rfl
theorem fd34_7 : (∀ {S : Mem}, appendD Try.prog #[34, 34] .nils .nils S = some (.nils, S)) := by intros; exact ap_zero del34 rfl (by simp)
theorem fd34_8 : (∀ {S : Mem}, appendD Try.prog #[34, 34] .sl0 .nils S = some (.sl0, S)) := by intros; exact ap_zero del34 rfl (by simp)
theorem fd34_9 : (∀ {own : Option Nat} {len : Nat} {cells : List D} {S : Mem}, appendD Try.prog #[34, 34] (.sl own 1 len cells) .nils S = some ((.sl own 1 len cells), S)) := by intros; exact ap_zero del34 rfl (by simp)
theorem fd34_10 : (∀ {S : Mem}, appendD Try.prog #[34, 34] .nils .sl0 S = some (.nils, S)) := by intros; exact ap_zero del34 rfl (by simp)
theorem fd34_11 : (∀ {S : Mem}, appendD Try.prog #[34, 34] .sl0 .sl0 S = some (.sl0, S)) := by intros; exact ap_zero del34 rfl (by simp)
theorem fd34_12 : (∀ {own : Option Nat} {len : Nat} {cells : List D} {S : Mem}, appendD Try.prog #[34, 34] (.sl own 1 len cells) .sl0 S = some ((.sl own 1 len cells), S)) := by intros; exact ap_zero del34 rfl (by simp)
theorem fd34_13 : (∀ {S : Mem}, appendD Try.prog #[34, 34] .nils .slx S = some (.nils, S)) := by intros; exact ap_zero del34 rfl (by simp)
theorem fd34_14 : (∀ {S : Mem}, appendD Try.prog #[34, 34] .sl0 .slx S = some (.sl0, S)) := by intros; exact ap_zero del34 rfl (by simp)
theorem fd34_15 : (∀ {own : Option Nat} {len : Nat} {cells : List D} {S : Mem}, appendD Try.prog #[34, 34] (.sl own 1 len cells) .slx S = some ((.sl own 1 len cells), S)) := by intros; exact ap_zero del34 rfl (by simp)
theorem fd34_16 : (∀ {own : Option Nat} {m : Nat} {new : List D} {S : Mem}, appendD Try.prog #[34, 34] .nils (.sl own 1 m new) S = if m = 0 then some (.nils, S) else if fitsD 16 m new then some (.sl (some S.length) 1 m new, S ++ [.own]) else none) := ap_nils del34
theorem fd34_17 : (∀ {own : Option Nat} {m : Nat} {new : List D} {S : Mem}, appendD Try.prog #[34, 34] .sl0 (.sl own 1 m new) S = if m = 0 then some (.sl0, S) else if fitsD 16 m new then some (.sl (some S.length) 1 m new, S ++ [.own]) else none) := ap_sl0 del34
theorem fd34_18 : (∀ {own : Option Nat} {id m len : Nat} {cells new : List D} {S : Mem}, appendD Try.prog #[34, 34] (.sl (some id) 1 len cells) (.sl own 1 m new) S = if m = 0 then some (.sl (some id) 1 len cells, S) else if fitsD 16 (len + m) new then (match S[id]? with | some .own => some (.sl (some S.length) 1 (len + m) (cells ++ new), S.set id .dead ++ [.own]) | _ => none) else none) := ap_own del34
theorem fd34_19 : (∀ {own : Option Nat} {len : Nat} {cells : List D} {S : Mem}, builtinD Try.prog .len #[34] [.sl own 1 len cells] S = some (.int .i64 len, S)) := len_sl rfl Try.underlying34
theorem fd34_20 : (∀ {S : Mem}, builtinD Try.prog .len #[34] [.nils] S = some (.int .i64 0, S)) := len_nil rfl Try.underlying34
theorem fd34_21 : (∀ {x y : Operand}, binD Try.prog .eql 34 x y .nils .nils = some (.bool true) ∧ binD Try.prog .eql 34 x y .slx .nils = some (.bool false) ∧ (∀ {own sz n cells}, binD Try.prog .eql 34 x y (.sl own sz (n + 1) cells) .nils = some (.bool false)) ∧ binD Try.prog .neq 34 x y .nils .nils = some (.bool false) ∧ binD Try.prog .neq 34 x y .slx .nils = some (.bool true) ∧ (∀ {own sz n cells}, binD Try.prog .neq 34 x y (.sl own sz (n + 1) cells) .nils = some (.bool true))) := eq_nils Try.underlying34
theorem fd34_22 : (∀ {S : Mem}, builtinD Try.prog .len #[34] [.slx] S = some (.int .i64 0, S)) := len_slx rfl Try.underlying34
theorem fd34_23 : (∀ {S : Mem}, builtinD Try.prog .len #[34] [.sl0] S = some (.int .i64 0, S)) := len_nil0 rfl Try.underlying34
theorem fd36_0 : (Try.prog.underlying 36 = some (.slice 41)) := Try.underlying36
theorem fd36_1 : (∀ {x : D} {S : Mem}, loadD Try.prog 36 x S = (cellsAt x S).bind fun p => p.1[p.2]?) := ld_one dag36
theorem fd36_2 : (∀ {o off : Nat} {S : Mem} {v : D}, cellsD v = some [v] → D.one v = true → storeD Try.prog 36 (.ptr o off) v S = (objAt S o).bind fun cells => if off + 1 ≤ cells.length then some (S.set o (.obj (wr cells off [v]))) else none) := fun h1 h2 => st_cells dsz36 h1 rfl (by simp [h2])
theorem fd36_3 : (∀ {ρ : DEnv} {S : Mem}, opD Try.prog ρ (.alloc 36) S = some (.ptr S.length 0, S ++ [.obj [.nils]])) := al_cells dze36 (by simp [scalarV, Value.cells])
theorem fd36_4 : (∀ {own : Option Nat} {len : Nat} {cells : List D} {k : IntKind} {i : Int}, indexAtD Try.prog 36 (.sl own 5 len cells) (.int k i) = if 0 ≤ i ∧ i < len then some (.eptr cells (i.toNat * 5)) else none) := ix_sl Try.underlying36 dsz41
theorem fd36_5 : (∀ {own : Option Nat} {len : Nat} {cells : List D} {lo hi mx : Option D}, sliceD Try.prog 36 (.sl own 5 len cells) lo hi mx = (optNatD lo).bind fun l => (optNatD hi).bind fun h => (optNatD mx).bind fun m => if m.isSome = true ∧ h.isNone = true then none else cutD own 5 len cells (l.getD 0) (h.getD len) m) := cut_sl Try.underlying36 dsz41
theorem fd36_6 : (∀ {n : Nat} {ps : List (Nat × D)} {S : Mem}, buildSliceD Try.prog 36 n ps S = if n * 5 > 2 ^ 24 then none else (fillD (fun i => some (i * 5, 5)) (repD [.str ⟨#[]⟩, .int .i64 0, .int .i64 0, .str ⟨#[]⟩, .nils] n) ps).bind fun cells => if cells.all D.one = true then some (.sl (some S.length) 5 n cells, S ++ [.own]) else none) := bs_slice Try.underlying36 dsz41 dze41 (by simp [scalarV, Value.cells]) rfl
theorem fd36_7 : (∀ {S : Mem}, appendD Try.prog #[36, 36] .nils .nils S = some (.nils, S)) := by intros; exact ap_zero del36 rfl (by simp)
theorem fd36_8 : (∀ {S : Mem}, appendD Try.prog #[36, 36] .sl0 .nils S = some (.sl0, S)) := by intros; exact ap_zero del36 rfl (by simp)
theorem fd36_9 : (∀ {own : Option Nat} {len : Nat} {cells : List D} {S : Mem}, appendD Try.prog #[36, 36] (.sl own 5 len cells) .nils S = some ((.sl own 5 len cells), S)) := by intros; exact ap_zero del36 rfl (by simp)
theorem fd36_10 : (∀ {S : Mem}, appendD Try.prog #[36, 36] .nils .sl0 S = some (.nils, S)) := by intros; exact ap_zero del36 rfl (by simp)
theorem fd36_11 : (∀ {S : Mem}, appendD Try.prog #[36, 36] .sl0 .sl0 S = some (.sl0, S)) := by intros; exact ap_zero del36 rfl (by simp)
theorem fd36_12 : (∀ {own : Option Nat} {len : Nat} {cells : List D} {S : Mem}, appendD Try.prog #[36, 36] (.sl own 5 len cells) .sl0 S = some ((.sl own 5 len cells), S)) := by intros; exact ap_zero del36 rfl (by simp)
theorem fd36_13 : (∀ {S : Mem}, appendD Try.prog #[36, 36] .nils .slx S = some (.nils, S)) := by intros; exact ap_zero del36 rfl (by simp)
theorem fd36_14 : (∀ {S : Mem}, appendD Try.prog #[36, 36] .sl0 .slx S = some (.sl0, S)) := by intros; exact ap_zero del36 rfl (by simp)
theorem fd36_15 : (∀ {own : Option Nat} {len : Nat} {cells : List D} {S : Mem}, appendD Try.prog #[36, 36] (.sl own 5 len cells) .slx S = some ((.sl own 5 len cells), S)) := by intros; exact ap_zero del36 rfl (by simp)
theorem fd36_16 : (∀ {own : Option Nat} {m : Nat} {new : List D} {S : Mem}, appendD Try.prog #[36, 36] .nils (.sl own 5 m new) S = if m = 0 then some (.nils, S) else if fitsD 72 m new then some (.sl (some S.length) 5 m new, S ++ [.own]) else none) := ap_nils del36
theorem fd36_17 : (∀ {own : Option Nat} {m : Nat} {new : List D} {S : Mem}, appendD Try.prog #[36, 36] .sl0 (.sl own 5 m new) S = if m = 0 then some (.sl0, S) else if fitsD 72 m new then some (.sl (some S.length) 5 m new, S ++ [.own]) else none) := ap_sl0 del36
theorem fd36_18 : (∀ {own : Option Nat} {id m len : Nat} {cells new : List D} {S : Mem}, appendD Try.prog #[36, 36] (.sl (some id) 5 len cells) (.sl own 5 m new) S = if m = 0 then some (.sl (some id) 5 len cells, S) else if fitsD 72 (len + m) new then (match S[id]? with | some .own => some (.sl (some S.length) 5 (len + m) (cells ++ new), S.set id .dead ++ [.own]) | _ => none) else none) := ap_own del36
theorem fd36_19 : (∀ {own : Option Nat} {len : Nat} {cells : List D} {S : Mem}, builtinD Try.prog .len #[36] [.sl own 5 len cells] S = some (.int .i64 len, S)) := len_sl rfl Try.underlying36
theorem fd36_20 : (∀ {S : Mem}, builtinD Try.prog .len #[36] [.nils] S = some (.int .i64 0, S)) := len_nil rfl Try.underlying36
theorem fd36_21 : (∀ {x y : Operand}, binD Try.prog .eql 36 x y .nils .nils = some (.bool true) ∧ binD Try.prog .eql 36 x y .slx .nils = some (.bool false) ∧ (∀ {own sz n cells}, binD Try.prog .eql 36 x y (.sl own sz (n + 1) cells) .nils = some (.bool false)) ∧ binD Try.prog .neq 36 x y .nils .nils = some (.bool false) ∧ binD Try.prog .neq 36 x y .slx .nils = some (.bool true) ∧ (∀ {own sz n cells}, binD Try.prog .neq 36 x y (.sl own sz (n + 1) cells) .nils = some (.bool true))) := eq_nils Try.underlying36
theorem fd36_22 : (∀ {S : Mem}, builtinD Try.prog .len #[36] [.slx] S = some (.int .i64 0, S)) := len_slx rfl Try.underlying36
theorem fd36_23 : (∀ {S : Mem}, builtinD Try.prog .len #[36] [.sl0] S = some (.int .i64 0, S)) := len_nil0 rfl Try.underlying36
theorem fd37_0 : (Try.prog.underlying 37 = some (.int .u64)) := Try.underlying37
theorem fd37_1 : (∀ {x : D} {S : Mem}, loadD Try.prog 37 x S = (cellsAt x S).bind fun p => p.1[p.2]?) := ld_one dag37
theorem fd37_2 : (∀ {o off : Nat} {S : Mem} {v : D}, cellsD v = some [v] → D.one v = true → storeD Try.prog 37 (.ptr o off) v S = (objAt S o).bind fun cells => if off + 1 ≤ cells.length then some (S.set o (.obj (wr cells off [v]))) else none) := fun h1 h2 => st_cells dsz37 h1 rfl (by simp [h2])
theorem fd37_3 : (∀ {ρ : DEnv} {S : Mem}, opD Try.prog ρ (.alloc 37) S = some (.ptr S.length 0, S ++ [.obj [.int .u64 0]])) := al_cells dze37 (by simp [scalarV, Value.cells])
theorem fd37_4 : (∀ {S : Mem} {k : IntKind} {n : Int}, convD Try.prog 2 37 (.int k n) S = some (.int .u64 (IntKind.wrap .u64 n), S)) := conv_int Try.underlying2 Try.underlying37
theorem fd37_5 : (∀ {S : Mem} {k : IntKind} {n : Int}, convD Try.prog 3 37 (.int k n) S = some (.int .u64 (IntKind.wrap .u64 n), S)) := conv_int Try.underlying3 Try.underlying37
theorem fd37_6 : (∀ {S : Mem} {k : IntKind} {n : Int}, convD Try.prog 5 37 (.int k n) S = some (.int .u64 (IntKind.wrap .u64 n), S)) := conv_int Try.underlying5 Try.underlying37
theorem fd37_7 : (∀ {S : Mem} {k : IntKind} {n : Int}, convD Try.prog 26 37 (.int k n) S = some (.int .u64 (IntKind.wrap .u64 n), S)) := conv_int Try.underlying26 Try.underlying37
theorem fd37_8 : (∀ {S : Mem} {k : IntKind} {n : Int}, convD Try.prog 37 37 (.int k n) S = some (.int .u64 (IntKind.wrap .u64 n), S)) := conv_int Try.underlying37 Try.underlying37
theorem fd37_9 : (∀ {S : Mem} {k : IntKind} {n : Int}, convD Try.prog 84 37 (.int k n) S = some (.int .u64 (IntKind.wrap .u64 n), S)) := conv_int Try.underlying84 Try.underlying37
theorem fd39_0 : (∀ {x : D} {S : Mem}, loadD Try.prog 39 x S = (cellsAt x S).bind fun p => if p.2 + 4 ≤ p.1.length then some (.agg ((p.1.drop p.2).take 4)) else none) := ld_agg dag39 dsz39
theorem fd39_1 : (∀ {o off : Nat} {S : Mem} {x0 x1 x2 x3 : D}, ([x0, x1, x2, x3] : List D).all D.one = true → storeD Try.prog 39 (.ptr o off) (.agg [x0, x1, x2, x3]) S = (objAt S o).bind fun cells => if off + 4 ≤ cells.length then some (S.set o (.obj (wr cells off [x0, x1, x2, x3]))) else none) := fun h => st_cells dsz39 rfl rfl h
theorem fd39_2 : (∀ {ρ : DEnv} {S : Mem}, opD Try.prog ρ (.alloc 39) S = some (.ptr S.length 0, S ++ [.obj [.int .i64 0, .int .i64 0, .str ⟨#[]⟩, .nils]])) := al_cells dze39 (by simp [scalarV, Value.cells])
theorem fd39_3 : (∀ {o off : Nat}, fieldAtD Try.prog 39 (.ptr o off) 0 = some (.ptr o (off + 0))) := by simp [fieldAtD, Try.underlying39, dsz3]
theorem fd39_4 : (∀ {c : List D} {off : Nat}, fieldAtD Try.prog 39 (.eptr c off) 0 = some (.eptr c (off + 0))) := by simp [fieldAtD, Try.underlying39, dsz3]
theorem fd39_5 : (∀ {o off : Nat}, fieldAtD Try.prog 39 (.ptr o off) 1 = some (.ptr o (off + 1))) := by simp [fieldAtD, Try.underlying39, dsz2]
theorem fd39_6 : (∀ {c : List D} {off : Nat}, fieldAtD Try.prog 39 (.eptr c off) 1 = some (.eptr c (off + 1))) := by simp [fieldAtD, Try.underlying39, dsz2]
theorem fd39_7 : (∀ {o off : Nat}, fieldAtD Try.prog 39 (.ptr o off) 2 = some (.ptr o (off + 2))) := by simp [fieldAtD, Try.underlying39, dsz9]
theorem fd39_8 : (∀ {c : List D} {off : Nat}, fieldAtD Try.prog 39 (.eptr c off) 2 = some (.eptr c (off + 2))) := by simp [fieldAtD, Try.underlying39, dsz9]
theorem fd39_9 : (∀ {o off : Nat}, fieldAtD Try.prog 39 (.ptr o off) 3 = some (.ptr o (off + 3))) := by simp [fieldAtD, Try.underlying39, dsz25]
theorem fd39_10 : (∀ {c : List D} {off : Nat}, fieldAtD Try.prog 39 (.eptr c off) 3 = some (.eptr c (off + 3))) := by simp [fieldAtD, Try.underlying39, dsz25]
theorem fd39_11 : (∀ {ps : List (Nat × D)}, buildD Try.prog 39 ps = (fillD (fun i => ([(0, 1), (1, 1), (2, 1), (3, 1)] : List (Nat × Nat))[i]?) [.int .i64 0, .int .i64 0, .str ⟨#[]⟩, .nils] ps).map .agg) := bd_struct Try.underlying39 dpl39 dze39 (by simp [scalarV, Value.cells])
theorem fd41_0 : (∀ {x : D} {S : Mem}, loadD Try.prog 41 x S = (cellsAt x S).bind fun p => if p.2 + 5 ≤ p.1.length then some (.agg ((p.1.drop p.2).take 5)) else none) := ld_agg dag41 dsz41
theorem fd41_1 : (∀ {o off : Nat} {S : Mem} {x0 x1 x2 x3 x4 : D}, ([x0, x1, x2, x3, x4] : List D).all D.one = true → storeD Try.prog 41 (.ptr o off) (.agg [x0, x1, x2, x3, x4]) S = (objAt S o).bind fun cells => if off + 5 ≤ cells.length then some (S.set o (.obj (wr cells off [x0, x1, x2, x3, x4]))) else none) := fun h => st_cells dsz41 rfl rfl h
theorem fd41_2 : (∀ {ρ : DEnv} {S : Mem}, opD Try.prog ρ (.alloc 41) S = some (.ptr S.length 0, S ++ [.obj [.str ⟨#[]⟩, .int .i64 0, .int .i64 0, .str ⟨#[]⟩, .nils]])) := al_cells dze41 (by simp [scalarV, Value.cells])
theorem fd41_3 : (∀ {o off : Nat}, fieldAtD Try.prog 41 (.ptr o off) 0 = some (.ptr o (off + 0))) := by simp [fieldAtD, Try.underlying41, dsz9]
theorem fd41_4 : (∀ {c : List D} {off : Nat}, fieldAtD Try.prog 41 (.eptr c off) 0 = some (.eptr c (off + 0))) := by simp [fieldAtD, Try.underlying41, dsz9]
theorem fd41_5 : (∀ {o off : Nat}, fieldAtD Try.prog 41 (.ptr o off) 1 = some (.ptr o (off + 1))) := by simp [fieldAtD, Try.underlying41, dsz39]
theorem fd41_6 : (∀ {c : List D} {off : Nat}, fieldAtD Try.prog 41 (.eptr c off) 1 = some (.eptr c (off + 1))) := by simp [fieldAtD, Try.underlying41, dsz39]
theorem fd41_7 : (∀ {ps : List (Nat × D)}, buildD Try.prog 41 ps = (fillD (fun i => ([(0, 1), (1, 4)] : List (Nat × Nat))[i]?) [.str ⟨#[]⟩, .int .i64 0, .int .i64 0, .str ⟨#[]⟩, .nils] ps).map .agg) := bd_struct Try.underlying41 dpl41 dze41 (by simp [scalarV, Value.cells])
theorem fd50_0 : (Try.prog.underlying 50 = some (.slice 34)) := Try.underlying50
theorem fd50_1 : (∀ {x : D} {S : Mem}, loadD Try.prog 50 x S = (cellsAt x S).bind fun p => p.1[p.2]?) := ld_one dag50
theorem fd50_2 : (∀ {o off : Nat} {S : Mem} {v : D}, cellsD v = some [v] → D.one v = true → storeD Try.prog 50 (.ptr o off) v S = (objAt S o).bind fun cells => if off + 1 ≤ cells.length then some (S.set o (.obj (wr cells off [v]))) else none) := fun h1 h2 => st_cells dsz50 h1 rfl (by simp [h2])
theorem fd50_3 : (∀ {ρ : DEnv} {S : Mem}, opD Try.prog ρ (.alloc 50) S = some (.ptr S.length 0, S ++ [.obj [.nils]])) := al_cells dze50 (by simp [scalarV, Value.cells])
theorem fd50_4 : (∀ {own : Option Nat} {len : Nat} {cells : List D} {k : IntKind} {i : Int}, indexAtD Try.prog 50 (.sl own 1 len cells) (.int k i) = if 0 ≤ i ∧ i < len then some (.eptr cells (i.toNat * 1)) else none) := ix_sl Try.underlying50 dsz34
theorem fd50_5 : (∀ {own : Option Nat} {len : Nat} {cells : List D} {lo hi mx : Option D}, sliceD Try.prog 50 (.sl own 1 len cells) lo hi mx = (optNatD lo).bind fun l => (optNatD hi).bind fun h => (optNatD mx).bind fun m => if m.isSome = true ∧ h.isNone = true then none else cutD own 1 len cells (l.getD 0) (h.getD len) m) := cut_sl Try.underlying50 dsz34
theorem fd50_6 : (∀ {n : Nat} {ps : List (Nat × D)} {S : Mem}, buildSliceD Try.prog 50 n ps S = if n * 1 > 2 ^ 24 then none else (fillD (fun i => some (i * 1, 1)) (repD [.nils] n) ps).bind fun cells => if cells.all D.one = true then some (.sl (some S.length) 1 n cells, S ++ [.own]) else none) := bs_slice Try.underlying50 dsz34 dze34 (by simp [scalarV, Value.cells]) rfl
theorem fd50_7 : (∀ {S : Mem}, appendD Try.prog #[50, 50] .nils .nils S = some (.nils, S)) := by intros; exact ap_zero del50 rfl (by simp)
theorem fd50_8 : (∀ {S : Mem}, appendD Try.prog #[50, 50] .sl0 .nils S = some (.sl0, S)) := by intros; exact ap_zero del50 rfl (by simp)
theorem fd50_9 : (∀ {own : Option Nat} {len : Nat} {cells : List D} {S : Mem}, appendD Try.prog #[50, 50] (.sl own 1 len cells) .nils S = some ((.sl own 1 len cells), S)) := by intros; exact ap_zero del50 rfl (by simp)
theorem fd50_10 : (∀ {S : Mem}, appendD Try.prog #[50, 50] .nils .sl0 S = some (.nils, S)) := by intros; exact ap_zero del50 rfl (by simp)
theorem fd50_11 : (∀ {S : Mem}, appendD Try.prog #[50, 50] .sl0 .sl0 S = some (.sl0, S)) := by intros; exact ap_zero del50 rfl (by simp)
theorem fd50_12 : (∀ {own : Option Nat} {len : Nat} {cells : List D} {S : Mem}, appendD Try.prog #[50, 50] (.sl own 1 len cells) .sl0 S = some ((.sl own 1 len cells), S)) := by intros; exact ap_zero del50 rfl (by simp)
theorem fd50_13 : (∀ {S : Mem}, appendD Try.prog #[50, 50] .nils .slx S = some (.nils, S)) := by intros; exact ap_zero del50 rfl (by simp)
theorem fd50_14 : (∀ {S : Mem}, appendD Try.prog #[50, 50] .sl0 .slx S = some (.sl0, S)) := by intros; exact ap_zero del50 rfl (by simp)
theorem fd50_15 : (∀ {own : Option Nat} {len : Nat} {cells : List D} {S : Mem}, appendD Try.prog #[50, 50] (.sl own 1 len cells) .slx S = some ((.sl own 1 len cells), S)) := by intros; exact ap_zero del50 rfl (by simp)
theorem fd50_16 : (∀ {own : Option Nat} {m : Nat} {new : List D} {S : Mem}, appendD Try.prog #[50, 50] .nils (.sl own 1 m new) S = if m = 0 then some (.nils, S) else if fitsD 24 m new then some (.sl (some S.length) 1 m new, S ++ [.own]) else none) := ap_nils del50
theorem fd50_17 : (∀ {own : Option Nat} {m : Nat} {new : List D} {S : Mem}, appendD Try.prog #[50, 50] .sl0 (.sl own 1 m new) S = if m = 0 then some (.sl0, S) else if fitsD 24 m new then some (.sl (some S.length) 1 m new, S ++ [.own]) else none) := ap_sl0 del50
theorem fd50_18 : (∀ {own : Option Nat} {id m len : Nat} {cells new : List D} {S : Mem}, appendD Try.prog #[50, 50] (.sl (some id) 1 len cells) (.sl own 1 m new) S = if m = 0 then some (.sl (some id) 1 len cells, S) else if fitsD 24 (len + m) new then (match S[id]? with | some .own => some (.sl (some S.length) 1 (len + m) (cells ++ new), S.set id .dead ++ [.own]) | _ => none) else none) := ap_own del50
theorem fd50_19 : (∀ {own : Option Nat} {len : Nat} {cells : List D} {S : Mem}, builtinD Try.prog .len #[50] [.sl own 1 len cells] S = some (.int .i64 len, S)) := len_sl rfl Try.underlying50
theorem fd50_20 : (∀ {S : Mem}, builtinD Try.prog .len #[50] [.nils] S = some (.int .i64 0, S)) := len_nil rfl Try.underlying50
theorem fd50_21 : (∀ {x y : Operand}, binD Try.prog .eql 50 x y .nils .nils = some (.bool true) ∧ binD Try.prog .eql 50 x y .slx .nils = some (.bool false) ∧ (∀ {own sz n cells}, binD Try.prog .eql 50 x y (.sl own sz (n + 1) cells) .nils = some (.bool false)) ∧ binD Try.prog .neq 50 x y .nils .nils = some (.bool false) ∧ binD Try.prog .neq 50 x y .slx .nils = some (.bool true) ∧ (∀ {own sz n cells}, binD Try.prog .neq 50 x y (.sl own sz (n + 1) cells) .nils = some (.bool true))) := eq_nils Try.underlying50
theorem fd50_22 : (∀ {S : Mem}, builtinD Try.prog .len #[50] [.slx] S = some (.int .i64 0, S)) := len_slx rfl Try.underlying50
theorem fd50_23 : (∀ {S : Mem}, builtinD Try.prog .len #[50] [.sl0] S = some (.int .i64 0, S)) := len_nil0 rfl Try.underlying50
theorem fd56_0 : (∀ {x : D} {S : Mem}, loadD Try.prog 56 x S = (cellsAt x S).bind fun p => if p.2 + 2 ≤ p.1.length then some (.agg ((p.1.drop p.2).take 2)) else none) := ld_agg dag56 dsz56
theorem fd56_1 : (∀ {o off : Nat} {S : Mem} {x0 x1 : D}, ([x0, x1] : List D).all D.one = true → storeD Try.prog 56 (.ptr o off) (.agg [x0, x1]) S = (objAt S o).bind fun cells => if off + 2 ≤ cells.length then some (S.set o (.obj (wr cells off [x0, x1]))) else none) := fun h => st_cells dsz56 rfl rfl h
theorem fd56_2 : (∀ {ρ : DEnv} {S : Mem}, opD Try.prog ρ (.alloc 56) S = some (.ptr S.length 0, S ++ [.obj [.int .i64 0, .bool false]])) := al_cells dze56 (by simp [scalarV, Value.cells])
theorem fd56_3 : (∀ {o off : Nat}, fieldAtD Try.prog 56 (.ptr o off) 0 = some (.ptr o (off + 0))) := by simp [fieldAtD, Try.underlying56, dsz2]
theorem fd56_4 : (∀ {c : List D} {off : Nat}, fieldAtD Try.prog 56 (.eptr c off) 0 = some (.eptr c (off + 0))) := by simp [fieldAtD, Try.underlying56, dsz2]
theorem fd56_5 : (∀ {o off : Nat}, fieldAtD Try.prog 56 (.ptr o off) 1 = some (.ptr o (off + 1))) := by simp [fieldAtD, Try.underlying56, dsz4]
theorem fd56_6 : (∀ {c : List D} {off : Nat}, fieldAtD Try.prog 56 (.eptr c off) 1 = some (.eptr c (off + 1))) := by simp [fieldAtD, Try.underlying56, dsz4]
theorem fd56_7 : (∀ {ps : List (Nat × D)}, buildD Try.prog 56 ps = (fillD (fun i => ([(0, 1), (1, 1)] : List (Nat × Nat))[i]?) [.int .i64 0, .bool false] ps).map .agg) := bd_struct Try.underlying56 dpl56 dze56 (by simp [scalarV, Value.cells])
theorem fd58_0 : (Try.prog.underlying 58 = some (.slice 56)) := Try.underlying58
theorem fd58_1 : (∀ {x : D} {S : Mem}, loadD Try.prog 58 x S = (cellsAt x S).bind fun p => p.1[p.2]?) := ld_one dag58
theorem fd58_2 : (∀ {o off : Nat} {S : Mem} {v : D}, cellsD v = some [v] → D.one v = true → storeD Try.prog 58 (.ptr o off) v S = (objAt S o).bind fun cells => if off + 1 ≤ cells.length then some (S.set o (.obj (wr cells off [v]))) else none) := fun h1 h2 => st_cells dsz58 h1 rfl (by simp [h2])
theorem fd58_3 : (∀ {ρ : DEnv} {S : Mem}, opD Try.prog ρ (.alloc 58) S = some (.ptr S.length 0, S ++ [.obj [.nils]])) := al_cells dze58 (by simp [scalarV, Value.cells])
theorem fd58_4 : (∀ {own : Option Nat} {len : Nat} {cells : List D} {k : IntKind} {i : Int}, indexAtD Try.prog 58 (.sl own 2 len cells) (.int k i) = if 0 ≤ i ∧ i < len then some (.eptr cells (i.toNat * 2)) else none) := ix_sl Try.underlying58 dsz56
theorem fd58_5 : (∀ {own : Option Nat} {len : Nat} {cells : List D} {lo hi mx : Option D}, sliceD Try.prog 58 (.sl own 2 len cells) lo hi mx = (optNatD lo).bind fun l => (optNatD hi).bind fun h => (optNatD mx).bind fun m => if m.isSome = true ∧ h.isNone = true then none else cutD own 2 len cells (l.getD 0) (h.getD len) m) := cut_sl Try.underlying58 dsz56
theorem fd58_6 : (∀ {n : Nat} {ps : List (Nat × D)} {S : Mem}, buildSliceD Try.prog 58 n ps S = if n * 2 > 2 ^ 24 then none else (fillD (fun i => some (i * 2, 2)) (repD [.int .i64 0, .bool false] n) ps).bind fun cells => if cells.all D.one = true then some (.sl (some S.length) 2 n cells, S ++ [.own]) else none) := bs_slice Try.underlying58 dsz56 dze56 (by simp [scalarV, Value.cells]) rfl
theorem fd58_7 : (∀ {S : Mem}, appendD Try.prog #[58, 58] .nils .nils S = some (.nils, S)) := by intros; exact ap_zero del58 rfl (by simp)
theorem fd58_8 : (∀ {S : Mem}, appendD Try.prog #[58, 58] .sl0 .nils S = some (.sl0, S)) := by intros; exact ap_zero del58 rfl (by simp)
theorem fd58_9 : (∀ {own : Option Nat} {len : Nat} {cells : List D} {S : Mem}, appendD Try.prog #[58, 58] (.sl own 2 len cells) .nils S = some ((.sl own 2 len cells), S)) := by intros; exact ap_zero del58 rfl (by simp)
theorem fd58_10 : (∀ {S : Mem}, appendD Try.prog #[58, 58] .nils .sl0 S = some (.nils, S)) := by intros; exact ap_zero del58 rfl (by simp)
theorem fd58_11 : (∀ {S : Mem}, appendD Try.prog #[58, 58] .sl0 .sl0 S = some (.sl0, S)) := by intros; exact ap_zero del58 rfl (by simp)
theorem fd58_12 : (∀ {own : Option Nat} {len : Nat} {cells : List D} {S : Mem}, appendD Try.prog #[58, 58] (.sl own 2 len cells) .sl0 S = some ((.sl own 2 len cells), S)) := by intros; exact ap_zero del58 rfl (by simp)
theorem fd58_13 : (∀ {S : Mem}, appendD Try.prog #[58, 58] .nils .slx S = some (.nils, S)) := by intros; exact ap_zero del58 rfl (by simp)
theorem fd58_14 : (∀ {S : Mem}, appendD Try.prog #[58, 58] .sl0 .slx S = some (.sl0, S)) := by intros; exact ap_zero del58 rfl (by simp)
theorem fd58_15 : (∀ {own : Option Nat} {len : Nat} {cells : List D} {S : Mem}, appendD Try.prog #[58, 58] (.sl own 2 len cells) .slx S = some ((.sl own 2 len cells), S)) := by intros; exact ap_zero del58 rfl (by simp)
theorem fd58_16 : (∀ {own : Option Nat} {m : Nat} {new : List D} {S : Mem}, appendD Try.prog #[58, 58] .nils (.sl own 2 m new) S = if m = 0 then some (.nils, S) else if fitsD 16 m new then some (.sl (some S.length) 2 m new, S ++ [.own]) else none) := ap_nils del58
theorem fd58_17 : (∀ {own : Option Nat} {m : Nat} {new : List D} {S : Mem}, appendD Try.prog #[58, 58] .sl0 (.sl own 2 m new) S = if m = 0 then some (.sl0, S) else if fitsD 16 m new then some (.sl (some S.length) 2 m new, S ++ [.own]) else none) := ap_sl0 del58
theorem fd58_18 : (∀ {own : Option Nat} {id m len : Nat} {cells new : List D} {S : Mem}, appendD Try.prog #[58, 58] (.sl (some id) 2 len cells) (.sl own 2 m new) S = if m = 0 then some (.sl (some id) 2 len cells, S) else if fitsD 16 (len + m) new then (match S[id]? with | some .own => some (.sl (some S.length) 2 (len + m) (cells ++ new), S.set id .dead ++ [.own]) | _ => none) else none) := ap_own del58
theorem fd58_19 : (∀ {own : Option Nat} {len : Nat} {cells : List D} {S : Mem}, builtinD Try.prog .len #[58] [.sl own 2 len cells] S = some (.int .i64 len, S)) := len_sl rfl Try.underlying58
theorem fd58_20 : (∀ {S : Mem}, builtinD Try.prog .len #[58] [.nils] S = some (.int .i64 0, S)) := len_nil rfl Try.underlying58
theorem fd58_21 : (∀ {x y : Operand}, binD Try.prog .eql 58 x y .nils .nils = some (.bool true) ∧ binD Try.prog .eql 58 x y .slx .nils = some (.bool false) ∧ (∀ {own sz n cells}, binD Try.prog .eql 58 x y (.sl own sz (n + 1) cells) .nils = some (.bool false)) ∧ binD Try.prog .neq 58 x y .nils .nils = some (.bool false) ∧ binD Try.prog .neq 58 x y .slx .nils = some (.bool true) ∧ (∀ {own sz n cells}, binD Try.prog .neq 58 x y (.sl own sz (n + 1) cells) .nils = some (.bool true))) := eq_nils Try.underlying58
theorem fd58_22 : (∀ {S : Mem}, builtinD Try.prog .len #[58] [.slx] S = some (.int .i64 0, S)) := len_slx rfl Try.underlying58
theorem fd58_23 : (∀ {S : Mem}, builtinD Try.prog .len #[58] [.sl0] S = some (.int .i64 0, S)) := len_nil0 rfl Try.underlying58
theorem fd84_0 : (Try.prog.underlying 84 = some (.int .u64)) := Try.underlying84
theorem fd84_1 : (∀ {x : D} {S : Mem}, loadD Try.prog 84 x S = (cellsAt x S).bind fun p => p.1[p.2]?) := ld_one dag84
theorem fd84_2 : (∀ {o off : Nat} {S : Mem} {v : D}, cellsD v = some [v] → D.one v = true → storeD Try.prog 84 (.ptr o off) v S = (objAt S o).bind fun cells => if off + 1 ≤ cells.length then some (S.set o (.obj (wr cells off [v]))) else none) := fun h1 h2 => st_cells dsz84 h1 rfl (by simp [h2])
theorem fd84_3 : (∀ {ρ : DEnv} {S : Mem}, opD Try.prog ρ (.alloc 84) S = some (.ptr S.length 0, S ++ [.obj [.int .u64 0]])) := al_cells dze84 (by simp [scalarV, Value.cells])
theorem fd84_4 : (∀ {S : Mem} {k : IntKind} {n : Int}, convD Try.prog 2 84 (.int k n) S = some (.int .u64 (IntKind.wrap .u64 n), S)) := conv_int Try.underlying2 Try.underlying84
theorem fd84_5 : (∀ {S : Mem} {k : IntKind} {n : Int}, convD Try.prog 3 84 (.int k n) S = some (.int .u64 (IntKind.wrap .u64 n), S)) := conv_int Try.underlying3 Try.underlying84
theorem fd84_6 : (∀ {S : Mem} {k : IntKind} {n : Int}, convD Try.prog 5 84 (.int k n) S = some (.int .u64 (IntKind.wrap .u64 n), S)) := conv_int Try.underlying5 Try.underlying84
theorem fd84_7 : (∀ {S : Mem} {k : IntKind} {n : Int}, convD Try.prog 26 84 (.int k n) S = some (.int .u64 (IntKind.wrap .u64 n), S)) := conv_int Try.underlying26 Try.underlying84
theorem fd84_8 : (∀ {S : Mem} {k : IntKind} {n : Int}, convD Try.prog 37 84 (.int k n) S = some (.int .u64 (IntKind.wrap .u64 n), S)) := conv_int Try.underlying37 Try.underlying84
theorem fd84_9 : (∀ {S : Mem} {k : IntKind} {n : Int}, convD Try.prog 84 84 (.int k n) S = some (.int .u64 (IntKind.wrap .u64 n), S)) := conv_int Try.underlying84 Try.underlying84
end Go.Proofs.DaT
