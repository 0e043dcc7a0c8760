/- Facts on the types of the program: sizes, fields, places, zeros. -/
import Derived.Test.YtipeffaojbhbmaaProg
import Derived.Test.YtipeffaojbhbmaaDmZ
import Derived.KernelRfl
set_option linter.unusedSimpArgs false
set_option linter.unusedVariables false
namespace Go.Proofs.DmT
open Go Go.AM Go.DM
set_option maxRecDepth 100000
theorem dag2 : isAggA Try.prog 2 = some false := congrArg (Option.map _) Try.underlying2
theorem dag3 : isAggA Try.prog 3 = some false := congrArg (Option.map _) Try.underlying3
theorem dag4 : isAggA Try.prog 4 = some false := congrArg (Option.map _) Try.underlying4
theorem dag5 : isAggA Try.prog 5 = some false := congrArg (Option.map _) Try.underlying5
theorem dag9 : isAggA Try.prog 9 = some false := congrArg (Option.map _) Try.underlying9
theorem dag22 : isAggA Try.prog 22 = some false := congrArg (Option.map _) Try.underlying22
theorem dag24 : isAggA Try.prog 24 = some true := congrArg (Option.map _) Try.underlying24
theorem dag25 : isAggA Try.prog 25 = some false := congrArg (Option.map _) Try.underlying25
theorem dag29 : isAggA Try.prog 29 = some false := congrArg (Option.map _) Try.underlying29
theorem dag31 : isAggA Try.prog 31 = some true := congrArg (Option.map _) Try.underlying31
theorem dag37 : isAggA Try.prog 37 = some false := congrArg (Option.map _) Try.underlying37
theorem dag43 : isAggA Try.prog 43 = some false := congrArg (Option.map _) Try.underlying43
theorem dag44 : isAggA Try.prog 44 = some false := congrArg (Option.map _) Try.underlying44
theorem dag45 : isAggA Try.prog 45 = some false := congrArg (Option.map _) Try.underlying45
theorem dag47 : isAggA Try.prog 47 = some false := congrArg (Option.map _) Try.underlying47
theorem dag49 : isAggA Try.prog 49 = some true := congrArg (Option.map _) Try.underlying49
theorem dag51 : isAggA Try.prog 51 = some true := congrArg (Option.map _) Try.underlying51
theorem dag57 : isAggA Try.prog 57 = some true := congrArg (Option.map _) Try.underlying57
theorem dag59 : isAggA Try.prog 59 = some true := congrArg (Option.map _) Try.underlying59
theorem dag61 : isAggA Try.prog 61 = some true := congrArg (Option.map _) Try.underlying61
theorem dag63 : isAggA Try.prog 63 = some false := congrArg (Option.map _) Try.underlying63
theorem dag68 : isAggA Try.prog 68 = some true := congrArg (Option.map _) Try.underlying68
theorem dag74 : isAggA Try.prog 74 = some true := congrArg (Option.map _) Try.underlying74
theorem dag76 : isAggA Try.prog 76 = some false := congrArg (Option.map _) Try.underlying76
theorem dag96 : isAggA Try.prog 96 = some false := congrArg (Option.map _) Try.underlying96
theorem dtys : (tyA Try.prog 2, tyA Try.prog 3, tyA Try.prog 4, tyA Try.prog 5, tyA Try.prog 9, tyA Try.prog 22, tyA Try.prog 24, tyA Try.prog 25, tyA Try.prog 51, tyA Try.prog 29, tyA Try.prog 31, tyA Try.prog 37, tyA Try.prog 74, tyA Try.prog 43, tyA Try.prog 44, tyA Try.prog 45, tyA Try.prog 47, tyA Try.prog 49, tyA Try.prog 57, tyA Try.prog 59, tyA Try.prog 61, tyA Try.prog 63, tyA Try.prog 68, tyA Try.prog 76, tyA Try.prog 96, ()) = ((some 1, some 8, some (.int .i64 0), none), (some 1, some 8, some (.int .i64 0), none), (some 1, some 1, some (.bool false), none), (some 1, some 1, some (.int .u8 0), none), (some 1, some 16, some (.string ⟨#[]⟩), none), (some 1, some 24, some (.slice none 0 0), none), (some 4, some 64, some (.agg #[.string ⟨#[]⟩, .string ⟨#[]⟩, .int .i64 0, .slice none 0 0]), some [(0, 1), (1, 1), (2, 1), (3, 1)]), (some 1, some 24, some (.slice none 0 0), none), (some 5, some 72, some (.agg #[.string ⟨#[]⟩, .int .i64 0, .int .i64 0, .string ⟨#[]⟩, .slice none 0 0]), some [(0, 1), (1, 4)]), (some 1, some 24, some (.slice none 0 0), none), (some 4, some 64, some (.agg #[.string ⟨#[]⟩, .string ⟨#[]⟩, .int .i64 0, .slice none 0 0]), some [(0, 1), (1, 1), (2, 1), (3, 1)]), (some 1, some 24, some (.slice none 0 0), none), (some 5, some 72, some (.agg #[.string ⟨#[]⟩, .int .i64 0, .int .i64 0, .string ⟨#[]⟩, .slice none 0 0]), some [(0, 1), (1, 4)]), (some 1, some 24, some (.slice none 0 0), none), (some 1, some 2, some (.int .u16 0), none), (some 1, some 24, some (.slice none 0 0), none), (some 1, some 8, some (.int .u64 0), none), (some 4, some 56, some (.agg #[.int .i64 0, .int .i64 0, .string ⟨#[]⟩, .slice none 0 0]), some [(0, 1), (1, 1), (2, 1), (3, 1)]), (some 4, some 40, some (.agg #[.int .i64 0, .int .i64 0, .int .i64 0, .string ⟨#[]⟩]), some [(0, 1), (1, 1), (2, 1), (3, 1)]), (some 6, some 80, some (.agg #[.string ⟨#[]⟩, .int .i64 0, .int .i64 0, .int .i64 0, .string ⟨#[]⟩, .slice none 0 0]), some [(0, 1), (1, 4), (5, 1)]), (some 2, some 16, some (.agg #[.int .i64 0, .bool false]), some [(0, 1), (1, 1)]), (some 1, some 24, some (.slice none 0 0), none), (some 4, some 56, some (.agg #[.int .i64 0, .int .i64 0, .string ⟨#[]⟩, .slice none 0 0]), some [(0, 1), (1, 1), (2, 1), (3, 1)]), (some 1, some 24, some (.slice none 0 0), none), (some 1, some 8, some (.int .u64 0), none), ()) := by kernel_rfl
theorem dsz2 : sizeA Try.prog 2 = some 1 := congrArg (fun x => x.1.1) dtys
theorem dby2 : (Try.prog.info? 2).map (·.bytes) = some 8 := congrArg (fun x => x.1.2.1) dtys
theorem dze2 : zeroA Try.prog 2 = some (.int .i64 0) := congrArg (fun x => x.1.2.2.1) dtys
theorem dsz3 : sizeA Try.prog 3 = some 1 := congrArg (fun x => x.2.1.1) dtys
theorem dby3 : (Try.prog.info? 3).map (·.bytes) = some 8 := congrArg (fun x => x.2.1.2.1) dtys
theorem dze3 : zeroA Try.prog 3 = some (.int .i64 0) := congrArg (fun x => x.2.1.2.2.1) dtys
theorem dsz4 : sizeA Try.prog 4 = some 1 := congrArg (fun x => x.2.2.1.1) dtys
theorem dby4 : (Try.prog.info? 4).map (·.bytes) = some 1 := congrArg (fun x => x.2.2.1.2.1) dtys
theorem dze4 : zeroA Try.prog 4 = some (.bool false) := congrArg (fun x => x.2.2.1.2.2.1) dtys
theorem dsz5 : sizeA Try.prog 5 = some 1 := congrArg (fun x => x.2.2.2.1.1) dtys
theorem dby5 : (Try.prog.info? 5).map (·.bytes) = some 1 := congrArg (fun x => x.2.2.2.1.2.1) dtys
theorem dze5 : zeroA Try.prog 5 = some (.int .u8 0) := congrArg (fun x => x.2.2.2.1.2.2.1) dtys
theorem dsz9 : sizeA Try.prog 9 = some 1 := congrArg (fun x => x.2.2.2.2.1.1) dtys
theorem dby9 : (Try.prog.info? 9).map (·.bytes) = some 16 := congrArg (fun x => x.2.2.2.2.1.2.1) dtys
theorem dze9 : zeroA Try.prog 9 = some (.string ⟨#[]⟩) := congrArg (fun x => x.2.2.2.2.1.2.2.1) dtys
theorem dsz22 : sizeA Try.prog 22 = some 1 := congrArg (fun x => x.2.2.2.2.2.1.1) dtys
theorem dby22 : (Try.prog.info? 22).map (·.bytes) = some 24 := congrArg (fun x => x.2.2.2.2.2.1.2.1) dtys
theorem dze22 : zeroA Try.prog 22 = some (.slice none 0 0) := congrArg (fun x => x.2.2.2.2.2.1.2.2.1) dtys
theorem dsz24 : sizeA Try.prog 24 = some 4 := congrArg (fun x => x.2.2.2.2.2.2.1.1) dtys
theorem dby24 : (Try.prog.info? 24).map (·.bytes) = some 64 := congrArg (fun x => x.2.2.2.2.2.2.1.2.1) dtys
theorem dze24 : zeroA Try.prog 24 = some (.agg #[.string ⟨#[]⟩, .string ⟨#[]⟩, .int .i64 0, .slice none 0 0]) := congrArg (fun x => x.2.2.2.2.2.2.1.2.2.1) dtys
theorem dpl24 : placesA Try.prog 24 = some [(0, 1), (1, 1), (2, 1), (3, 1)] := congrArg (fun x => x.2.2.2.2.2.2.1.2.2.2) dtys
theorem dsz25 : sizeA Try.prog 25 = some 1 := congrArg (fun x => x.2.2.2.2.2.2.2.1.1) dtys
theorem dby25 : (Try.prog.info? 25).map (·.bytes) = some 24 := congrArg (fun x => x.2.2.2.2.2.2.2.1.2.1) dtys
theorem dze25 : zeroA Try.prog 25 = some (.slice none 0 0) := congrArg (fun x => x.2.2.2.2.2.2.2.1.2.2.1) dtys
theorem dsz51 : sizeA Try.prog 51 = some 5 := congrArg (fun x => x.2.2.2.2.2.2.2.2.1.1) dtys
theorem dby51 : (Try.prog.info? 51).map (·.bytes) = some 72 := congrArg (fun x => x.2.2.2.2.2.2.2.2.1.2.1) dtys
theorem dze51 : zeroA Try.prog 51 = some (.agg #[.string ⟨#[]⟩, .int .i64 0, .int .i64 0, .string ⟨#[]⟩, .slice none 0 0]) := congrArg (fun x => x.2.2.2.2.2.2.2.2.1.2.2.1) dtys
theorem dpl51 : placesA Try.prog 51 = some [(0, 1), (1, 4)] := congrArg (fun x => x.2.2.2.2.2.2.2.2.1.2.2.2) dtys
theorem dsz29 : sizeA Try.prog 29 = some 1 := congrArg (fun x => x.2.2.2.2.2.2.2.2.2.1.1) dtys
theorem dby29 : (Try.prog.info? 29).map (·.bytes) = some 24 := congrArg (fun x => x.2.2.2.2.2.2.2.2.2.1.2.1) dtys
theorem dze29 : zeroA Try.prog 29 = some (.slice none 0 0) := congrArg (fun x => x.2.2.2.2.2.2.2.2.2.1.2.2.1) dtys
theorem dsz31 : sizeA Try.prog 31 = some 4 := congrArg (fun x => x.2.2.2.2.2.2.2.2.2.2.1.1) dtys
theorem dby31 : (Try.prog.info? 31).map (·.bytes) = some 64 := congrArg (fun x => x.2.2.2.2.2.2.2.2.2.2.1.2.1) dtys
theorem dze31 : zeroA Try.prog 31 = some (.agg #[.string ⟨#[]⟩, .string ⟨#[]⟩, .int .i64 0, .slice none 0 0]) := congrArg (fun x => x.2.2.2.2.2.2.2.2.2.2.1.2.2.1) dtys
theorem dpl31 : placesA Try.prog 31 = some [(0, 1), (1, 1), (2, 1), (3, 1)] := congrArg (fun x => x.2.2.2.2.2.2.2.2.2.2.1.2.2.2) dtys
theorem dsz37 : sizeA Try.prog 37 = some 1 := congrArg (fun x => x.2.2.2.2.2.2.2.2.2.2.2.1.1) dtys
theorem dby37 : (Try.prog.info? 37).map (·.bytes) = some 24 := congrArg (fun x => x.2.2.2.2.2.2.2.2.2.2.2.1.2.1) dtys
theorem dze37 : zeroA Try.prog 37 = some (.slice none 0 0) := congrArg (fun x => x.2.2.2.2.2.2.2.2.2.2.2.1.2.2.1) dtys
theorem dsz74 : sizeA Try.prog 74 = some 5 := congrArg (fun x => x.2.2.2.2.2.2.2.2.2.2.2.2.1.1) dtys
theorem dby74 : (Try.prog.info? 74).map (·.bytes) = some 72 := congrArg (fun x => x.2.2.2.2.2.2.2.2.2.2.2.2.1.2.1) dtys
theorem dze74 : zeroA Try.prog 74 = some (.agg #[.string ⟨#[]⟩, .int .i64 0, .int .i64 0, .string ⟨#[]⟩, .slice none 0 0]) := congrArg (fun x => x.2.2.2.2.2.2.2.2.2.2.2.2.1.2.2.1) dtys
theorem dpl74 : placesA Try.prog 74 = some [(0, 1), (1, 4)] := congrArg (fun x => x.2.2.2.2.2.2.2.2.2.2.2.2.1.2.2.2) dtys
theorem dsz43 : sizeA Try.prog 43 = some 1 := congrArg (fun x => x.2.2.2.2.2.2.2.2.2.2.2.2.2.1.1) dtys
theorem dby43 : (Try.prog.info? 43).map (·.bytes) = some 24 := congrArg (fun x => x.2.2.2.2.2.2.2.2.2.2.2.2.2.1.2.1) dtys
theorem dze43 : zeroA Try.prog 43 = some (.slice none 0 0) := congrArg (fun x => x.2.2.2.2.2.2.2.2.2.2.2.2.2.1.2.2.1) dtys
theorem dsz44 : sizeA Try.prog 44 = some 1 := congrArg (fun x => x.2.2.2.2.2.2.2.2.2.2.2.2.2.2.1.1) dtys
theorem dby44 : (Try.prog.info? 44).map (·.bytes) = some 2 := congrArg (fun x => x.2.2.2.2.2.2.2.2.2.2.2.2.2.2.1.2.1) dtys
theorem dze44 : zeroA Try.prog 44 = some (.int .u16 0) := congrArg (fun x => x.2.2.2.2.2.2.2.2.2.2.2.2.2.2.1.2.2.1) dtys
theorem dsz45 : sizeA Try.prog 45 = some 1 := congrArg (fun x => x.2.2.2.2.2.2.2.2.2.2.2.2.2.2.2.1.1) dtys
theorem dby45 : (Try.prog.info? 45).map (·.bytes) = some 24 := congrArg (fun x => x.2.2.2.2.2.2.2.2.2.2.2.2.2.2.2.1.2.1) dtys
theorem dze45 : zeroA Try.prog 45 = some (.slice none 0 0) := congrArg (fun x => x.2.2.2.2.2.2.2.2.2.2.2.2.2.2.2.1.2.2.1) dtys
theorem dsz47 : sizeA Try.prog 47 = some 1 := congrArg (fun x => x.2.2.2.2.2.2.2.2.2.2.2.2.2.2.2.2.1.1) dtys
theorem dby47 : (Try.prog.info? 47).map (·.bytes) = some 8 := congrArg (fun x => x.2.2.2.2.2.2.2.2.2.2.2.2.2.2.2.2.1.2.1) dtys
theorem dze47 : zeroA Try.prog 47 = some (.int .u64 0) := congrArg (fun x => x.2.2.2.2.2.2.2.2.2.2.2.2.2.2.2.2.1.2.2.1) dtys
theorem dsz49 : sizeA Try.prog 49 = some 4 := congrArg (fun x => x.2.2.2.2.2.2.2.2.2.2.2.2.2.2.2.2.2.1.1) dtys
theorem dby49 : (Try.prog.info? 49).map (·.bytes) = some 56 := congrArg (fun x => x.2.2.2.2.2.2.2.2.2.2.2.2.2.2.2.2.2.1.2.1) dtys
theorem dze49 : zeroA Try.prog 49 = some (.agg #[.int .i64 0, .int .i64 0, .string ⟨#[]⟩, .slice none 0 0]) := congrArg (fun x => x.2.2.2.2.2.2.2.2.2.2.2.2.2.2.2.2.2.1.2.2.1) dtys
theorem dpl49 : placesA Try.prog 49 = some [(0, 1), (1, 1), (2, 1), (3, 1)] := congrArg (fun x => x.2.2.2.2.2.2.2.2.2.2.2.2.2.2.2.2.2.1.2.2.2) dtys
theorem dsz57 : sizeA Try.prog 57 = some 4 := congrArg (fun x => x.2.2.2.2.2.2.2.2.2.2.2.2.2.2.2.2.2.2.1.1) dtys
theorem dby57 : (Try.prog.info? 57).map (·.bytes) = some 40 := congrArg (fun x => x.2.2.2.2.2.2.2.2.2.2.2.2.2.2.2.2.2.2.1.2.1) dtys
theorem dze57 : zeroA Try.prog 57 = some (.agg #[.int .i64 0, .int .i64 0, .int .i64 0, .string ⟨#[]⟩]) := congrArg (fun x => x.2.2.2.2.2.2.2.2.2.2.2.2.2.2.2.2.2.2.1.2.2.1) dtys
theorem dpl57 : placesA Try.prog 57 = some [(0, 1), (1, 1), (2, 1), (3, 1)] := congrArg (fun x => x.2.2.2.2.2.2.2.2.2.2.2.2.2.2.2.2.2.2.1.2.2.2) dtys
theorem dsz59 : sizeA Try.prog 59 = some 6 := congrArg (fun x => x.2.2.2.2.2.2.2.2.2.2.2.2.2.2.2.2.2.2.2.1.1) dtys
theorem dby59 : (Try.prog.info? 59).map (·.bytes) = some 80 := congrArg (fun x => x.2.2.2.2.2.2.2.2.2.2.2.2.2.2.2.2.2.2.2.1.2.1) dtys
theorem dze59 : zeroA Try.prog 59 = some (.agg #[.string ⟨#[]⟩, .int .i64 0, .int .i64 0, .int .i64 0, .string ⟨#[]⟩, .slice none 0 0]) := congrArg (fun x => x.2.2.2.2.2.2.2.2.2.2.2.2.2.2.2.2.2.2.2.1.2.2.1) dtys
theorem dpl59 : placesA Try.prog 59 = some [(0, 1), (1, 4), (5, 1)] := congrArg (fun x => x.2.2.2.2.2.2.2.2.2.2.2.2.2.2.2.2.2.2.2.1.2.2.2) dtys
theorem dsz61 : sizeA Try.prog 61 = some 2 := congrArg (fun x => x.2.2.2.2.2.2.2.2.2.2.2.2.2.2.2.2.2.2.2.2.1.1) dtys
theorem dby61 : (Try.prog.info? 61).map (·.bytes) = some 16 := congrArg (fun x => x.2.2.2.2.2.2.2.2.2.2.2.2.2.2.2.2.2.2.2.2.1.2.1) dtys
theorem dze61 : zeroA Try.prog 61 = some (.agg #[.int .i64 0, .bool false]) := congrArg (fun x => x.2.2.2.2.2.2.2.2.2.2.2.2.2.2.2.2.2.2.2.2.1.2.2.1) dtys
theorem dpl61 : placesA Try.prog 61 = some [(0, 1), (1, 1)] := congrArg (fun x => x.2.2.2.2.2.2.2.2.2.2.2.2.2.2.2.2.2.2.2.2.1.2.2.2) dtys
theorem dsz63 : sizeA Try.prog 63 = some 1 := congrArg (fun x => x.2.2.2.2.2.2.2.2.2.2.2.2.2.2.2.2.2.2.2.2.2.1.1) dtys
theorem dby63 : (Try.prog.info? 63).map (·.bytes) = some 24 := congrArg (fun x => x.2.2.2.2.2.2.2.2.2.2.2.2.2.2.2.2.2.2.2.2.2.1.2.1) dtys
theorem dze63 : zeroA Try.prog 63 = some (.slice none 0 0) := congrArg (fun x => x.2.2.2.2.2.2.2.2.2.2.2.2.2.2.2.2.2.2.2.2.2.1.2.2.1) dtys
theorem dsz68 : sizeA Try.prog 68 = some 4 := congrArg (fun x => x.2.2.2.2.2.2.2.2.2.2.2.2.2.2.2.2.2.2.2.2.2.2.1.1) dtys
theorem dby68 : (Try.prog.info? 68).map (·.bytes) = some 56 := congrArg (fun x => x.2.2.2.2.2.2.2.2.2.2.2.2.2.2.2.2.2.2.2.2.2.2.1.2.1) dtys
theorem dze68 : zeroA Try.prog 68 = some (.agg #[.int .i64 0, .int .i64 0, .string ⟨#[]⟩, .slice none 0 0]) := congrArg (fun x => x.2.2.2.2.2.2.2.2.2.2.2.2.2.2.2.2.2.2.2.2.2.2.1.2.2.1) dtys
theorem dpl68 : placesA Try.prog 68 = some [(0, 1), (1, 1), (2, 1), (3, 1)] := congrArg (fun x => x.2.2.2.2.2.2.2.2.2.2.2.2.2.2.2.2.2.2.2.2.2.2.1.2.2.2) dtys
theorem dsz76 : sizeA Try.prog 76 = some 1 := congrArg (fun x => x.2.2.2.2.2.2.2.2.2.2.2.2.2.2.2.2.2.2.2.2.2.2.2.1.1) dtys
theorem dby76 : (Try.prog.info? 76).map (·.bytes) = some 24 := congrArg (fun x => x.2.2.2.2.2.2.2.2.2.2.2.2.2.2.2.2.2.2.2.2.2.2.2.1.2.1) dtys
theorem dze76 : zeroA Try.prog 76 = some (.slice none 0 0) := congrArg (fun x => x.2.2.2.2.2.2.2.2.2.2.2.2.2.2.2.2.2.2.2.2.2.2.2.1.2.2.1) dtys
theorem dsz96 : sizeA Try.prog 96 = some 1 := congrArg (fun x => x.2.2.2.2.2.2.2.2.2.2.2.2.2.2.2.2.2.2.2.2.2.2.2.2.1.1) dtys
theorem dby96 : (Try.prog.info? 96).map (·.bytes) = some 8 := congrArg (fun x => x.2.2.2.2.2.2.2.2.2.2.2.2.2.2.2.2.2.2.2.2.2.2.2.2.1.2.1) dtys
theorem dze96 : zeroA Try.prog 96 = some (.int .u64 0) := congrArg (fun x => x.2.2.2.2.2.2.2.2.2.2.2.2.2.2.2.2.2.2.2.2.2.2.2.2.1.2.2.1) dtys
theorem del22 : ElemT Try.prog 22 24 4 64 := elemT_at Try.underlying22 dsz24 dby24 dze24 rfl
theorem del25 : ElemT Try.prog 25 51 5 72 := elemT_at Try.underlying25 dsz51 dby51 dze51 rfl
theorem del29 : ElemT Try.prog 29 31 4 64 := elemT_at Try.underlying29 dsz31 dby31 dze31 rfl
theorem del37 : ElemT Try.prog 37 74 5 72 := elemT_at Try.underlying37 dsz74 dby74 dze74 rfl
theorem del43 : ElemT Try.prog 43 2 1 8 := elemT_at Try.underlying43 dsz2 dby2 dze2 rfl
theorem del45 : ElemT Try.prog 45 9 1 16 := elemT_at Try.underlying45 dsz9 dby9 dze9 rfl
theorem del63 : ElemT Try.prog 63 61 2 16 := elemT_at Try.underlying63 dsz61 dby61 dze61 rfl
theorem del76 : ElemT Try.prog 76 45 1 24 := elemT_at Try.underlying76 dsz45 dby45 dze45 rfl
theorem dmx : Try.prog.follows .mixedOrders = true := by kernel_rfl
theorem fd2_0 : (Try.prog.underlying 2 = some (.int .i64)) := Try.underlying2
theorem fd2_1 : (∀ {x : D} {S : Mem}, loadD Try.prog 2 x S = (cellsAt x S).bind fun p => p.1[p.2]?) := ld_one dag2
theorem fd2_2 : (∀ {o off : Nat} {S : Mem} {v : D}, cellsD v = some [v] → D.one v = true → storeD Try.prog 2 (.ptr o off) v S = (objAt S o).bind fun cells => if off + 1 ≤ cells.length then some (S.set o (.obj (wr cells off [v]))) else none) := fun h1 h2 => st_cells dsz2 h1 rfl (by simp [h2])
theorem fd2_3 : (∀ {ρ : DEnv} {S : Mem}, opD Try.prog ρ (.alloc 2) S = some (.ptr S.length 0, S ++ [.obj [.int .i64 0]])) := al_cells dze2 (by simp [scalarV, Value.cells])
theorem fd2_4 : (∀ {S : Mem} {k : IntKind} {n : Int}, convD Try.prog 2 2 (.int k n) S = some (.int .i64 (IntKind.wrap .i64 n), S)) := conv_int Try.underlying2 Try.underlying2
theorem fd2_5 : (∀ {S : Mem} {k : IntKind} {n : Int}, convD Try.prog 3 2 (.int k n) S = some (.int .i64 (IntKind.wrap .i64 n), S)) := conv_int Try.underlying3 Try.underlying2
theorem fd2_6 : (∀ {S : Mem} {k : IntKind} {n : Int}, convD Try.prog 5 2 (.int k n) S = some (.int .i64 (IntKind.wrap .i64 n), S)) := conv_int Try.underlying5 Try.underlying2
theorem fd2_7 : (∀ {S : Mem} {k : IntKind} {n : Int}, convD Try.prog 44 2 (.int k n) S = some (.int .i64 (IntKind.wrap .i64 n), S)) := conv_int Try.underlying44 Try.underlying2
theorem fd2_8 : (∀ {S : Mem} {k : IntKind} {n : Int}, convD Try.prog 47 2 (.int k n) S = some (.int .i64 (IntKind.wrap .i64 n), S)) := conv_int Try.underlying47 Try.underlying2
theorem fd2_9 : (∀ {S : Mem} {k : IntKind} {n : Int}, convD Try.prog 96 2 (.int k n) S = some (.int .i64 (IntKind.wrap .i64 n), S)) := conv_int Try.underlying96 Try.underlying2
theorem fd3_0 : (Try.prog.underlying 3 = some (.int .i64)) := Try.underlying3
theorem fd3_1 : (∀ {x : D} {S : Mem}, loadD Try.prog 3 x S = (cellsAt x S).bind fun p => p.1[p.2]?) := ld_one dag3
theorem fd3_2 : (∀ {o off : Nat} {S : Mem} {v : D}, cellsD v = some [v] → D.one v = true → storeD Try.prog 3 (.ptr o off) v S = (objAt S o).bind fun cells => if off + 1 ≤ cells.length then some (S.set o (.obj (wr cells off [v]))) else none) := fun h1 h2 => st_cells dsz3 h1 rfl (by simp [h2])
theorem fd3_3 : (∀ {ρ : DEnv} {S : Mem}, opD Try.prog ρ (.alloc 3) S = some (.ptr S.length 0, S ++ [.obj [.int .i64 0]])) := al_cells dze3 (by simp [scalarV, Value.cells])
theorem fd3_4 : (∀ {S : Mem} {k : IntKind} {n : Int}, convD Try.prog 2 3 (.int k n) S = some (.int .i64 (IntKind.wrap .i64 n), S)) := conv_int Try.underlying2 Try.underlying3
theorem fd3_5 : (∀ {S : Mem} {k : IntKind} {n : Int}, convD Try.prog 3 3 (.int k n) S = some (.int .i64 (IntKind.wrap .i64 n), S)) := conv_int Try.underlying3 Try.underlying3
theorem fd3_6 : (∀ {S : Mem} {k : IntKind} {n : Int}, convD Try.prog 5 3 (.int k n) S = some (.int .i64 (IntKind.wrap .i64 n), S)) := conv_int Try.underlying5 Try.underlying3
theorem fd3_7 : (∀ {S : Mem} {k : IntKind} {n : Int}, convD Try.prog 44 3 (.int k n) S = some (.int .i64 (IntKind.wrap .i64 n), S)) := conv_int Try.underlying44 Try.underlying3
theorem fd3_8 : (∀ {S : Mem} {k : IntKind} {n : Int}, convD Try.prog 47 3 (.int k n) S = some (.int .i64 (IntKind.wrap .i64 n), S)) := conv_int Try.underlying47 Try.underlying3
theorem fd3_9 : (∀ {S : Mem} {k : IntKind} {n : Int}, convD Try.prog 96 3 (.int k n) S = some (.int .i64 (IntKind.wrap .i64 n), S)) := conv_int Try.underlying96 Try.underlying3
theorem fd4_0 : (Try.prog.underlying 4 = some (.bool)) := Try.underlying4
theorem fd4_1 : (∀ {x : D} {S : Mem}, loadD Try.prog 4 x S = (cellsAt x S).bind fun p => p.1[p.2]?) := ld_one dag4
theorem fd4_2 : (∀ {o off : Nat} {S : Mem} {v : D}, cellsD v = some [v] → D.one v = true → storeD Try.prog 4 (.ptr o off) v S = (objAt S o).bind fun cells => if off + 1 ≤ cells.length then some (S.set o (.obj (wr cells off [v]))) else none) := fun h1 h2 => st_cells dsz4 h1 rfl (by simp [h2])
theorem fd4_3 : (∀ {ρ : DEnv} {S : Mem}, opD Try.prog ρ (.alloc 4) S = some (.ptr S.length 0, S ++ [.obj [.bool false]])) := al_cells dze4 (by simp [scalarV, Value.cells])
theorem fd4_4 : (∀ {x y : Operand} {a b : Bool}, binD Try.prog .eql 4 x y (.bool a) (.bool b) = some (.bool (a == b)) ∧ binD Try.prog .neq 4 x y (.bool a) (.bool b) = some (.bool !(a == b))) := bin_bool Try.underlying4
theorem fd5_0 : (Try.prog.underlying 5 = some (.int .u8)) := Try.underlying5
theorem fd5_1 : (∀ {x : D} {S : Mem}, loadD Try.prog 5 x S = (cellsAt x S).bind fun p => p.1[p.2]?) := ld_one dag5
theorem fd5_2 : (∀ {o off : Nat} {S : Mem} {v : D}, cellsD v = some [v] → D.one v = true → storeD Try.prog 5 (.ptr o off) v S = (objAt S o).bind fun cells => if off + 1 ≤ cells.length then some (S.set o (.obj (wr cells off [v]))) else none) := fun h1 h2 => st_cells dsz5 h1 rfl (by simp [h2])
theorem fd5_3 : (∀ {ρ : DEnv} {S : Mem}, opD Try.prog ρ (.alloc 5) S = some (.ptr S.length 0, S ++ [.obj [.int .u8 0]])) := al_cells dze5 (by simp [scalarV, Value.cells])
theorem fd5_4 : (∀ {S : Mem} {k : IntKind} {n : Int}, convD Try.prog 2 5 (.int k n) S = some (.int .u8 (IntKind.wrap .u8 n), S)) := conv_int Try.underlying2 Try.underlying5
theorem fd5_5 : (∀ {S : Mem} {k : IntKind} {n : Int}, convD Try.prog 3 5 (.int k n) S = some (.int .u8 (IntKind.wrap .u8 n), S)) := conv_int Try.underlying3 Try.underlying5
theorem fd5_6 : (∀ {S : Mem} {k : IntKind} {n : Int}, convD Try.prog 5 5 (.int k n) S = some (.int .u8 (IntKind.wrap .u8 n), S)) := conv_int Try.underlying5 Try.underlying5
theorem fd5_7 : (∀ {S : Mem} {k : IntKind} {n : Int}, convD Try.prog 44 5 (.int k n) S = some (.int .u8 (IntKind.wrap .u8 n), S)) := conv_int Try.underlying44 Try.underlying5
theorem fd5_8 : (∀ {S : Mem} {k : IntKind} {n : Int}, convD Try.prog 47 5 (.int k n) S = some (.int .u8 (IntKind.wrap .u8 n), S)) := conv_int Try.underlying47 Try.underlying5
theorem fd5_9 : (∀ {S : Mem} {k : IntKind} {n : Int}, convD Try.prog 96 5 (.int k n) S = some (.int .u8 (IntKind.wrap .u8 n), S)) := conv_int Try.underlying96 Try.underlying5
theorem fd9_0 : (Try.prog.underlying 9 = some (.string)) := Try.underlying9
theorem fd9_1 : (∀ {x : D} {S : Mem}, loadD Try.prog 9 x S = (cellsAt x S).bind fun p => p.1[p.2]?) := ld_one dag9
theorem fd9_2 : (∀ {o off : Nat} {S : Mem} {v : D}, cellsD v = some [v] → D.one v = true → storeD Try.prog 9 (.ptr o off) v S = (objAt S o).bind fun cells => if off + 1 ≤ cells.length then some (S.set o (.obj (wr cells off [v]))) else none) := fun h1 h2 => st_cells dsz9 h1 rfl (by simp [h2])
theorem fd9_3 : (∀ {ρ : DEnv} {S : Mem}, opD Try.prog ρ (.alloc 9) S = some (.ptr S.length 0, S ++ [.obj [.str ⟨#[]⟩]])) := al_cells dze9 (by simp [scalarV, Value.cells])
theorem fd9_4 : (∀ {S : Mem} {a : ByteArray}, convD Try.prog 9 9 (.str a) S = some (.str a, S)) := conv_str Try.underlying9 Try.underlying9
theorem fd9_5 : (∀ {s : ByteArray} {lo hi : Option D}, sliceD Try.prog 9 (.str s) lo hi none = (optNatD lo).bind fun l => (optNatD hi).bind fun h => if l.getD 0 ≤ h.getD s.size ∧ h.getD s.size ≤ s.size then some (.str (s.extract (l.getD 0) (h.getD s.size))) else none) := cut_str Try.underlying9
theorem fd9_6 : (∀ {x i : Operand} {ρ : DEnv} {S : Mem}, opD Try.prog ρ (.index 9 x i) S = indexStr (evalD ρ x) (evalD ρ i) S) := ix_str Try.underlying9
theorem fd9_7 : (∀ {s : ByteArray} {S : Mem}, builtinD Try.prog .len #[9] [.str s] S = some (.int .i64 s.size, S)) := len_str rfl Try.underlying9
theorem fd22_0 : (Try.prog.underlying 22 = some (.slice 24)) := Try.underlying22
theorem fd22_1 : (∀ {x : D} {S : Mem}, loadD Try.prog 22 x S = (cellsAt x S).bind fun p => p.1[p.2]?) := ld_one dag22
theorem fd22_2 : (∀ {o off : Nat} {S : Mem} {v : D}, cellsD v = some [v] → D.one v = true → storeD Try.prog 22 (.ptr o off) v S = (objAt S o).bind fun cells => if off + 1 ≤ cells.length then some (S.set o (.obj (wr cells off [v]))) else none) := fun h1 h2 => st_cells dsz22 h1 rfl (by simp [h2])
theorem fd22_3 : (∀ {ρ : DEnv} {S : Mem}, opD Try.prog ρ (.alloc 22) S = some (.ptr S.length 0, S ++ [.obj [.nils]])) := al_cells dze22 (by simp [scalarV, Value.cells])
theorem fd22_4 : (∀ {own : Option Nat} {len : Nat} {cells : List D} {k : IntKind} {i : Int}, indexAtD Try.prog 22 (.sl own 4 len cells) (.int k i) = if 0 ≤ i ∧ i < len then some (.eptr cells (i.toNat * 4)) else none) := ix_sl Try.underlying22 dsz24
theorem fd22_5 : (∀ {own : Option Nat} {len : Nat} {cells : List D} {lo hi mx : Option D}, sliceD Try.prog 22 (.sl own 4 len cells) lo hi mx = (optNatD lo).bind fun l => (optNatD hi).bind fun h => (optNatD mx).bind fun m => if m.isSome = true ∧ h.isNone = true then none else cutD own 4 len cells (l.getD 0) (h.getD len) m) := cut_sl Try.underlying22 dsz24
theorem fd22_6 : (∀ {n : Nat} {ps : List (Nat × D)} {S : Mem}, buildSliceD Try.prog 22 n ps S = if n * 4 > 2 ^ 24 then none else (fillD (fun i => some (i * 4, 4)) (repD [.str ⟨#[]⟩, .str ⟨#[]⟩, .int .i64 0, .nils] n) ps).bind fun cells => if cells.all D.one = true then some (.sl (some S.length) 4 n cells, S ++ [.own]) else none) := bs_slice Try.underlying22 dsz24 dze24 (by simp [scalarV, Value.cells]) rfl
theorem fd22_7 : (∀ {S : Mem}, appendD Try.prog #[22, 22] .nils .nils S = some (.nils, S)) := by intros; exact ap_zero del22 rfl (by simp)
theorem fd22_8 : (∀ {S : Mem}, appendD Try.prog #[22, 22] .sl0 .nils S = some (.sl0, S)) := by intros; exact ap_zero del22 rfl (by simp)
theorem fd22_9 : (∀ {own : Option Nat} {len : Nat} {cells : List D} {S : Mem}, appendD Try.prog #[22, 22] (.sl own 4 len cells) .nils S = some ((.sl own 4 len cells), S)) := by intros; exact ap_zero del22 rfl (by simp)
theorem fd22_10 : (∀ {S : Mem}, appendD Try.prog #[22, 22] .nils .sl0 S = some (.nils, S)) := by intros; exact ap_zero del22 rfl (by simp)
theorem fd22_11 : (∀ {S : Mem}, appendD Try.prog #[22, 22] .sl0 .sl0 S = some (.sl0, S)) := by intros; exact ap_zero del22 rfl (by simp)
theorem fd22_12 : (∀ {own : Option Nat} {len : Nat} {cells : List D} {S : Mem}, appendD Try.prog #[22, 22] (.sl own 4 len cells) .sl0 S = some ((.sl own 4 len cells), S)) := by intros; exact ap_zero del22 rfl (by simp)
theorem fd22_13 : (∀ {S : Mem}, appendD Try.prog #[22, 22] .nils .slx S = some (.nils, S)) := by intros; exact ap_zero del22 rfl (by simp)
theorem fd22_14 : (∀ {S : Mem}, appendD Try.prog #[22, 22] .sl0 .slx S = some (.sl0, S)) := by intros; exact ap_zero del22 rfl (by simp)
theorem fd22_15 : (∀ {own : Option Nat} {len : Nat} {cells : List D} {S : Mem}, appendD Try.prog #[22, 22] (.sl own 4 len cells) .slx S = some ((.sl own 4 len cells), S)) := by intros; exact ap_zero del22 rfl (by simp)
theorem fd22_16 : (∀ {own : Option Nat} {m : Nat} {new : List D} {S : Mem}, appendD Try.prog #[22, 22] .nils (.sl own 4 m new) S = if m = 0 then some (.nils, S) else if fitsD 64 m new then some (.sl (some S.length) 4 m new, S ++ [.own]) else none) := ap_nils del22
theorem fd22_17 : (∀ {own : Option Nat} {m : Nat} {new : List D} {S : Mem}, appendD Try.prog #[22, 22] .sl0 (.sl own 4 m new) S = if m = 0 then some (.sl0, S) else if fitsD 64 m new then some (.sl (some S.length) 4 m new, S ++ [.own]) else none) := ap_sl0 del22
theorem fd22_18 : (∀ {own : Option Nat} {id m len : Nat} {cells new : List D} {S : Mem}, appendD Try.prog #[22, 22] (.sl (some id) 4 len cells) (.sl own 4 m new) S = if m = 0 then some (.sl (some id) 4 len cells, S) else if fitsD 64 (len + m) new then (match S[id]? with | some .own => some (.sl (some S.length) 4 (len + m) (cells ++ new), S.set id .dead ++ [.own]) | _ => none) else none) := ap_own del22
theorem fd22_19 : (∀ {own : Option Nat} {len : Nat} {cells : List D} {S : Mem}, builtinD Try.prog .len #[22] [.sl own 4 len cells] S = some (.int .i64 len, S)) := len_sl rfl Try.underlying22
theorem fd22_20 : (∀ {S : Mem}, builtinD Try.prog .len #[22] [.nils] S = some (.int .i64 0, S)) := len_nil rfl Try.underlying22
theorem fd22_21 : (∀ {x y : Operand}, binD Try.prog .eql 22 x y .nils .nils = some (.bool true) ∧ binD Try.prog .eql 22 x y .slx .nils = some (.bool false) ∧ (∀ {own sz n cells}, binD Try.prog .eql 22 x y (.sl own sz (n + 1) cells) .nils = some (.bool false)) ∧ binD Try.prog .neq 22 x y .nils .nils = some (.bool false) ∧ binD Try.prog .neq 22 x y .slx .nils = some (.bool true) ∧ (∀ {own sz n cells}, binD Try.prog .neq 22 x y (.sl own sz (n + 1) cells) .nils = some (.bool true))) := eq_nils Try.underlying22
theorem fd22_22 : (∀ {S : Mem}, builtinD Try.prog .len #[22] [.slx] S = some (.int .i64 0, S)) := len_slx rfl Try.underlying22
theorem fd22_23 : (∀ {S : Mem}, builtinD Try.prog .len #[22] [.sl0] S = some (.int .i64 0, S)) := len_nil0 rfl Try.underlying22
theorem fd24_0 : (∀ {x : D} {S : Mem}, loadD Try.prog 24 x S = (cellsAt x S).bind fun p => if p.2 + 4 ≤ p.1.length then some (.agg ((p.1.drop p.2).take 4)) else none) := ld_agg dag24 dsz24
theorem fd24_1 : (∀ {o off : Nat} {S : Mem} {x0 x1 x2 x3 : D}, ([x0, x1, x2, x3] : List D).all D.one = true → storeD Try.prog 24 (.ptr o off) (.agg [x0, x1, x2, x3]) S = (objAt S o).bind fun cells => if off + 4 ≤ cells.length then some (S.set o (.obj (wr cells off [x0, x1, x2, x3]))) else none) := fun h => st_cells dsz24 rfl rfl h
theorem fd24_2 : (∀ {ρ : DEnv} {S : Mem}, opD Try.prog ρ (.alloc 24) S = some (.ptr S.length 0, S ++ [.obj [.str ⟨#[]⟩, .str ⟨#[]⟩, .int .i64 0, .nils]])) := al_cells dze24 (by simp [scalarV, Value.cells])
theorem fd24_3 : (∀ {o off : Nat}, fieldAtD Try.prog 24 (.ptr o off) 0 = some (.ptr o (off + 0))) := by simp [fieldAtD, Try.underlying24, dsz9]
theorem fd24_4 : (∀ {c : List D} {off : Nat}, fieldAtD Try.prog 24 (.eptr c off) 0 = some (.eptr c (off + 0))) := by simp [fieldAtD, Try.underlying24, dsz9]
theorem fd24_5 : (∀ {o off : Nat}, fieldAtD Try.prog 24 (.ptr o off) 1 = some (.ptr o (off + 1))) := by simp [fieldAtD, Try.underlying24, dsz9]
theorem fd24_6 : (∀ {c : List D} {off : Nat}, fieldAtD Try.prog 24 (.eptr c off) 1 = some (.eptr c (off + 1))) := by simp [fieldAtD, Try.underlying24, dsz9]
theorem fd24_7 : (∀ {o off : Nat}, fieldAtD Try.prog 24 (.ptr o off) 2 = some (.ptr o (off + 2))) := by simp [fieldAtD, Try.underlying24, dsz2]
theorem fd24_8 : (∀ {c : List D} {off : Nat}, fieldAtD Try.prog 24 (.eptr c off) 2 = some (.eptr c (off + 2))) := by simp [fieldAtD, Try.underlying24, dsz2]
theorem fd24_9 : (∀ {o off : Nat}, fieldAtD Try.prog 24 (.ptr o off) 3 = some (.ptr o (off + 3))) := by simp [fieldAtD, Try.underlying24, dsz22]
theorem fd24_10 : (∀ {c : List D} {off : Nat}, fieldAtD Try.prog 24 (.eptr c off) 3 = some (.eptr c (off + 3))) := by simp [fieldAtD, Try.underlying24, dsz22]
theorem fd24_11 : (∀ {ps : List (Nat × D)}, buildD Try.prog 24 ps = (fillD (fun i => ([(0, 1), (1, 1), (2, 1), (3, 1)] : List (Nat × Nat))[i]?) [.str ⟨#[]⟩, .str ⟨#[]⟩, .int .i64 0, .nils] ps).map .agg) := bd_struct Try.underlying24 dpl24 dze24 (by simp [scalarV, Value.cells])
theorem fd25_0 : (Try.prog.underlying 25 = some (.slice 51)) := Try.underlying25
theorem fd25_1 : (∀ {x : D} {S : Mem}, loadD Try.prog 25 x S = (cellsAt x S).bind fun p => p.1[p.2]?) := ld_one dag25
theorem fd25_2 : (∀ {o off : Nat} {S : Mem} {v : D}, cellsD v = some [v] → D.one v = true → storeD Try.prog 25 (.ptr o off) v S = (objAt S o).bind fun cells => if off + 1 ≤ cells.length then some (S.set o (.obj (wr cells off [v]))) else none) := fun h1 h2 => st_cells dsz25 h1 rfl (by simp [h2])
theorem fd25_3 : (∀ {ρ : DEnv} {S : Mem}, opD Try.prog ρ (.alloc 25) S = some (.ptr S.length 0, S ++ [.obj [.nils]])) := al_cells dze25 (by simp [scalarV, Value.cells])
theorem fd25_4 : (∀ {own : Option Nat} {len : Nat} {cells : List D} {k : IntKind} {i : Int}, indexAtD Try.prog 25 (.sl own 5 len cells) (.int k i) = if 0 ≤ i ∧ i < len then some (.eptr cells (i.toNat * 5)) else none) := ix_sl Try.underlying25 dsz51
theorem fd25_5 : (∀ {own : Option Nat} {len : Nat} {cells : List D} {lo hi mx : Option D}, sliceD Try.prog 25 (.sl own 5 len cells) lo hi mx = (optNatD lo).bind fun l => (optNatD hi).bind fun h => (optNatD mx).bind fun m => if m.isSome = true ∧ h.isNone = true then none else cutD own 5 len cells (l.getD 0) (h.getD len) m) := cut_sl Try.underlying25 dsz51
theorem fd25_6 : (∀ {n : Nat} {ps : List (Nat × D)} {S : Mem}, buildSliceD Try.prog 25 n ps S = if n * 5 > 2 ^ 24 then none else (fillD (fun i => some (i * 5, 5)) (repD [.str ⟨#[]⟩, .int .i64 0, .int .i64 0, .str ⟨#[]⟩, .nils] n) ps).bind fun cells => if cells.all D.one = true then some (.sl (some S.length) 5 n cells, S ++ [.own]) else none) := bs_slice Try.underlying25 dsz51 dze51 (by simp [scalarV, Value.cells]) rfl
theorem fd25_7 : (∀ {S : Mem}, appendD Try.prog #[25, 25] .nils .nils S = some (.nils, S)) := by intros; exact ap_zero del25 rfl (by simp)
theorem fd25_8 : (∀ {S : Mem}, appendD Try.prog #[25, 25] .sl0 .nils S = some (.sl0, S)) := by intros; exact ap_zero del25 rfl (by simp)
theorem fd25_9 : (∀ {own : Option Nat} {len : Nat} {cells : List D} {S : Mem}, appendD Try.prog #[25, 25] (.sl own 5 len cells) .nils S = some ((.sl own 5 len cells), S)) := by intros; exact ap_zero del25 rfl (by simp)
theorem fd25_10 : (∀ {S : Mem}, appendD Try.prog #[25, 25] .nils .sl0 S = some (.nils, S)) := by intros; exact ap_zero del25 rfl (by simp)
theorem fd25_11 : (∀ {S : Mem}, appendD Try.prog #[25, 25] .sl0 .sl0 S = some (.sl0, S)) := by intros; exact ap_zero del25 rfl (by simp)
theorem fd25_12 : (∀ {own : Option Nat} {len : Nat} {cells : List D} {S : Mem}, appendD Try.prog #[25, 25] (.sl own 5 len cells) .sl0 S = some ((.sl own 5 len cells), S)) := by intros; exact ap_zero del25 rfl (by simp)
theorem fd25_13 : (∀ {S : Mem}, appendD Try.prog #[25, 25] .nils .slx S = some (.nils, S)) := by intros; exact ap_zero del25 rfl (by simp)
theorem fd25_14 : (∀ {S : Mem}, appendD Try.prog #[25, 25] .sl0 .slx S = some (.sl0, S)) := by intros; exact ap_zero del25 rfl (by simp)
theorem fd25_15 : (∀ {own : Option Nat} {len : Nat} {cells : List D} {S : Mem}, appendD Try.prog #[25, 25] (.sl own 5 len cells) .slx S = some ((.sl own 5 len cells), S)) := by intros; exact ap_zero del25 rfl (by simp)
theorem fd25_16 : (∀ {own : Option Nat} {m : Nat} {new : List D} {S : Mem}, appendD Try.prog #[25, 25] .nils (.sl own 5 m new) S = if m = 0 then some (.nils, S) else if fitsD 72 m new then some (.sl (some S.length) 5 m new, S ++ [.own]) else none) := ap_nils del25
theorem fd25_17 : (∀ {own : Option Nat} {m : Nat} {new : List D} {S : Mem}, appendD Try.prog #[25, 25] .sl0 (.sl own 5 m new) S = if m = 0 then some (.sl0, S) else if fitsD 72 m new then some (.sl (some S.length) 5 m new, S ++ [.own]) else none) := ap_sl0 del25
theorem fd25_18 : (∀ {own : Option Nat} {id m len : Nat} {cells new : List D} {S : Mem}, appendD Try.prog #[25, 25] (.sl (some id) 5 len cells) (.sl own 5 m new) S = if m = 0 then some (.sl (some id) 5 len cells, S) else if fitsD 72 (len + m) new then (match S[id]? with | some .own => some (.sl (some S.length) 5 (len + m) (cells ++ new), S.set id .dead ++ [.own]) | _ => none) else none) := ap_own del25
theorem fd25_19 : (∀ {own : Option Nat} {len : Nat} {cells : List D} {S : Mem}, builtinD Try.prog .len #[25] [.sl own 5 len cells] S = some (.int .i64 len, S)) := len_sl rfl Try.underlying25
theorem fd25_20 : (∀ {S : Mem}, builtinD Try.prog .len #[25] [.nils] S = some (.int .i64 0, S)) := len_nil rfl Try.underlying25
theorem fd25_21 : (∀ {x y : Operand}, binD Try.prog .eql 25 x y .nils .nils = some (.bool true) ∧ binD Try.prog .eql 25 x y .slx .nils = some (.bool false) ∧ (∀ {own sz n cells}, binD Try.prog .eql 25 x y (.sl own sz (n + 1) cells) .nils = some (.bool false)) ∧ binD Try.prog .neq 25 x y .nils .nils = some (.bool false) ∧ binD Try.prog .neq 25 x y .slx .nils = some (.bool true) ∧ (∀ {own sz n cells}, binD Try.prog .neq 25 x y (.sl own sz (n + 1) cells) .nils = some (.bool true))) := eq_nils Try.underlying25
theorem fd25_22 : (∀ {S : Mem}, builtinD Try.prog .len #[25] [.slx] S = some (.int .i64 0, S)) := len_slx rfl Try.underlying25
theorem fd25_23 : (∀ {S : Mem}, builtinD Try.prog .len #[25] [.sl0] S = some (.int .i64 0, S)) := len_nil0 rfl Try.underlying25
theorem fd29_0 : (Try.prog.underlying 29 = some (.slice 31)) := Try.underlying29
theorem fd29_1 : (∀ {x : D} {S : Mem}, loadD Try.prog 29 x S = (cellsAt x S).bind fun p => p.1[p.2]?) := ld_one dag29
theorem fd29_2 : (∀ {o off : Nat} {S : Mem} {v : D}, cellsD v = some [v] → D.one v = true → storeD Try.prog 29 (.ptr o off) v S = (objAt S o).bind fun cells => if off + 1 ≤ cells.length then some (S.set o (.obj (wr cells off [v]))) else none) := fun h1 h2 => st_cells dsz29 h1 rfl (by simp [h2])
theorem fd29_3 : (∀ {ρ : DEnv} {S : Mem}, opD Try.prog ρ (.alloc 29) S = some (.ptr S.length 0, S ++ [.obj [.nils]])) := al_cells dze29 (by simp [scalarV, Value.cells])
theorem fd29_4 : (∀ {own : Option Nat} {len : Nat} {cells : List D} {k : IntKind} {i : Int}, indexAtD Try.prog 29 (.sl own 4 len cells) (.int k i) = if 0 ≤ i ∧ i < len then some (.eptr cells (i.toNat * 4)) else none) := ix_sl Try.underlying29 dsz31
theorem fd29_5 : (∀ {own : Option Nat} {len : Nat} {cells : List D} {lo hi mx : Option D}, sliceD Try.prog 29 (.sl own 4 len cells) lo hi mx = (optNatD lo).bind fun l => (optNatD hi).bind fun h => (optNatD mx).bind fun m => if m.isSome = true ∧ h.isNone = true then none else cutD own 4 len cells (l.getD 0) (h.getD len) m) := cut_sl Try.underlying29 dsz31
theorem fd29_6 : (∀ {n : Nat} {ps : List (Nat × D)} {S : Mem}, buildSliceD Try.prog 29 n ps S = if n * 4 > 2 ^ 24 then none else (fillD (fun i => some (i * 4, 4)) (repD [.str ⟨#[]⟩, .str ⟨#[]⟩, .int .i64 0, .nils] n) ps).bind fun cells => if cells.all D.one = true then some (.sl (some S.length) 4 n cells, S ++ [.own]) else none) := bs_slice Try.underlying29 dsz31 dze31 (by simp [scalarV, Value.cells]) rfl
theorem fd29_7 : (∀ {S : Mem}, appendD Try.prog #[29, 29] .nils .nils S = some (.nils, S)) := by intros; exact ap_zero del29 rfl (by simp)
theorem fd29_8 : (∀ {S : Mem}, appendD Try.prog #[29, 29] .sl0 .nils S = some (.sl0, S)) := by intros; exact ap_zero del29 rfl (by simp)
theorem fd29_9 : (∀ {own : Option Nat} {len : Nat} {cells : List D} {S : Mem}, appendD Try.prog #[29, 29] (.sl own 4 len cells) .nils S = some ((.sl own 4 len cells), S)) := by intros; exact ap_zero del29 rfl (by simp)
theorem fd29_10 : (∀ {S : Mem}, appendD Try.prog #[29, 29] .nils .sl0 S = some (.nils, S)) := by intros; exact ap_zero del29 rfl (by simp)
theorem fd29_11 : (∀ {S : Mem}, appendD Try.prog #[29, 29] .sl0 .sl0 S = some (.sl0, S)) := by intros; exact ap_zero del29 rfl (by simp)
theorem fd29_12 : (∀ {own : Option Nat} {len : Nat} {cells : List D} {S : Mem}, appendD Try.prog #[29, 29] (.sl own 4 len cells) .sl0 S = some ((.sl own 4 len cells), S)) := by intros; exact ap_zero del29 rfl (by simp)
theorem fd29_13 : (∀ {S : Mem}, appendD Try.prog #[29, 29] .nils .slx S = some (.nils, S)) := by intros; exact ap_zero del29 rfl (by simp)
theorem fd29_14 : (∀ {S : Mem}, appendD Try.prog #[29, 29] .sl0 .slx S = some (.sl0, S)) := by intros; exact ap_zero del29 rfl (by simp)
theorem fd29_15 : (∀ {own : Option Nat} {len : Nat} {cells : List D} {S : Mem}, appendD Try.prog #[29, 29] (.sl own 4 len cells) .slx S = some ((.sl own 4 len cells), S)) := by intros; exact ap_zero del29 rfl (by simp)
theorem fd29_16 : (∀ {own : Option Nat} {m : Nat} {new : List D} {S : Mem}, appendD Try.prog #[29, 29] .nils (.sl own 4 m new) S = if m = 0 then some (.nils, S) else if fitsD 64 m new then some (.sl (some S.length) 4 m new, S ++ [.own]) else none) := ap_nils del29
theorem fd29_17 : (∀ {own : Option Nat} {m : Nat} {new : List D} {S : Mem}, appendD Try.prog #[29, 29] .sl0 (.sl own 4 m new) S = if m = 0 then some (.sl0, S) else if fitsD 64 m new then some (.sl (some S.length) 4 m new, S ++ [.own]) else none) := ap_sl0 del29
theorem fd29_18 : (∀ {own : Option Nat} {id m len : Nat} {cells new : List D} {S : Mem}, appendD Try.prog #[29, 29] (.sl (some id) 4 len cells) (.sl own 4 m new) S = if m = 0 then some (.sl (some id) 4 len cells, S) else if fitsD 64 (len + m) new then (match S[id]? with | some .own => some (.sl (some S.length) 4 (len + m) (cells ++ new), S.set id .dead ++ [.own]) | _ => none) else none) := ap_own del29
theorem fd29_19 : (∀ {own : Option Nat} {len : Nat} {cells : List D} {S : Mem}, builtinD Try.prog .len #[29] [.sl own 4 len cells] S = some (.int .i64 len, S)) := len_sl rfl Try.underlying29
theorem fd29_20 : (∀ {S : Mem}, builtinD Try.prog .len #[29] [.nils] S = some (.int .i64 0, S)) := len_nil rfl Try.underlying29
theorem fd29_21 : (∀ {x y : Operand}, binD Try.prog .eql 29 x y .nils .nils = some (.bool true) ∧ binD Try.prog .eql 29 x y .slx .nils = some (.bool false) ∧ (∀ {own sz n cells}, binD Try.prog .eql 29 x y (.sl own sz (n + 1) cells) .nils = some (.bool false)) ∧ binD Try.prog .neq 29 x y .nils .nils = some (.bool false) ∧ binD Try.prog .neq 29 x y .slx .nils = some (.bool true) ∧ (∀ {own sz n cells}, binD Try.prog .neq 29 x y (.sl own sz (n + 1) cells) .nils = some (.bool true))) := eq_nils Try.underlying29
theorem fd29_22 : (∀ {S : Mem}, builtinD Try.prog .len #[29] [.slx] S = some (.int .i64 0, S)) := len_slx rfl Try.underlying29
theorem fd29_23 : (∀ {S : Mem}, builtinD Try.prog .len #[29] [.sl0] S = some (.int .i64 0, S)) := len_nil0 rfl Try.underlying29
theorem fd31_0 : (∀ {x : D} {S : Mem}, loadD Try.prog 31 x S = (cellsAt x S).bind fun p => if p.2 + 4 ≤ p.1.length then some (.agg ((p.1.drop p.2).take 4)) else none) := ld_agg dag31 dsz31
theorem fd31_1 : (∀ {o off : Nat} {S : Mem} {x0 x1 x2 x3 : D}, ([x0, x1, x2, x3] : List D).all D.one = true → storeD Try.prog 31 (.ptr o off) (.agg [x0, x1, x2, x3]) S = (objAt S o).bind fun cells => if off + 4 ≤ cells.length then some (S.set o (.obj (wr cells off [x0, x1, x2, x3]))) else none) := fun h => st_cells dsz31 rfl rfl h
theorem fd31_2 : (∀ {ρ : DEnv} {S : Mem}, opD Try.prog ρ (.alloc 31) S = some (.ptr S.length 0, S ++ [.obj [.str ⟨#[]⟩, .str ⟨#[]⟩, .int .i64 0, .nils]])) := al_cells dze31 (by simp [scalarV, Value.cells])
theorem fd31_3 : (∀ {o off : Nat}, fieldAtD Try.prog 31 (.ptr o off) 0 = some (.ptr o (off + 0))) := by simp [fieldAtD, Try.underlying31, dsz9]
theorem fd31_4 : (∀ {c : List D} {off : Nat}, fieldAtD Try.prog 31 (.eptr c off) 0 = some (.eptr c (off + 0))) := by simp [fieldAtD, Try.underlying31, dsz9]
theorem fd31_5 : (∀ {o off : Nat}, fieldAtD Try.prog 31 (.ptr o off) 1 = some (.ptr o (off + 1))) := by simp [fieldAtD, Try.underlying31, dsz9]
theorem fd31_6 : (∀ {c : List D} {off : Nat}, fieldAtD Try.prog 31 (.eptr c off) 1 = some (.eptr c (off + 1))) := by simp [fieldAtD, Try.underlying31, dsz9]
theorem fd31_7 : (∀ {o off : Nat}, fieldAtD Try.prog 31 (.ptr o off) 2 = some (.ptr o (off + 2))) := by simp [fieldAtD, Try.underlying31, dsz2]
theorem fd31_8 : (∀ {c : List D} {off : Nat}, fieldAtD Try.prog 31 (.eptr c off) 2 = some (.eptr c (off + 2))) := by simp [fieldAtD, Try.underlying31, dsz2]
theorem fd31_9 : (∀ {o off : Nat}, fieldAtD Try.prog 31 (.ptr o off) 3 = some (.ptr o (off + 3))) := by simp [fieldAtD, Try.underlying31, dsz29]
theorem fd31_10 : (∀ {c : List D} {off : Nat}, fieldAtD Try.prog 31 (.eptr c off) 3 = some (.eptr c (off + 3))) := by simp [fieldAtD, Try.underlying31, dsz29]
theorem fd31_11 : (∀ {ps : List (Nat × D)}, buildD Try.prog 31 ps = (fillD (fun i => ([(0, 1), (1, 1), (2, 1), (3, 1)] : List (Nat × Nat))[i]?) [.str ⟨#[]⟩, .str ⟨#[]⟩, .int .i64 0, .nils] ps).map .agg) := bd_struct Try.underlying31 dpl31 dze31 (by simp [scalarV, Value.cells])
theorem fd37_0 : (Try.prog.underlying 37 = some (.slice 74)) := Try.underlying37
theorem fd37_1 : (∀ {x : D} {S : Mem}, loadD Try.prog 37 x S = (cellsAt x S).bind fun p => p.1[p.2]?) := ld_one dag37
theorem fd37_2 : (∀ {o off : Nat} {S : Mem} {v : D}, cellsD v = some [v] → D.one v = true → storeD Try.prog 37 (.ptr o off) v S = (objAt S o).bind fun cells => if off + 1 ≤ cells.length then some (S.set o (.obj (wr cells off [v]))) else none) := fun h1 h2 => st_cells dsz37 h1 rfl (by simp [h2])
theorem fd37_3 : (∀ {ρ : DEnv} {S : Mem}, opD Try.prog ρ (.alloc 37) S = some (.ptr S.length 0, S ++ [.obj [.nils]])) := al_cells dze37 (by simp [scalarV, Value.cells])
theorem fd37_4 : (∀ {own : Option Nat} {len : Nat} {cells : List D} {k : IntKind} {i : Int}, indexAtD Try.prog 37 (.sl own 5 len cells) (.int k i) = if 0 ≤ i ∧ i < len then some (.eptr cells (i.toNat * 5)) else none) := ix_sl Try.underlying37 dsz74
theorem fd37_5 : (∀ {own : Option Nat} {len : Nat} {cells : List D} {lo hi mx : Option D}, sliceD Try.prog 37 (.sl own 5 len cells) lo hi mx = (optNatD lo).bind fun l => (optNatD hi).bind fun h => (optNatD mx).bind fun m => if m.isSome = true ∧ h.isNone = true then none else cutD own 5 len cells (l.getD 0) (h.getD len) m) := cut_sl Try.underlying37 dsz74
theorem fd37_6 : (∀ {n : Nat} {ps : List (Nat × D)} {S : Mem}, buildSliceD Try.prog 37 n ps S = if n * 5 > 2 ^ 24 then none else (fillD (fun i => some (i * 5, 5)) (repD [.str ⟨#[]⟩, .int .i64 0, .int .i64 0, .str ⟨#[]⟩, .nils] n) ps).bind fun cells => if cells.all D.one = true then some (.sl (some S.length) 5 n cells, S ++ [.own]) else none) := bs_slice Try.underlying37 dsz74 dze74 (by simp [scalarV, Value.cells]) rfl
theorem fd37_7 : (∀ {S : Mem}, appendD Try.prog #[37, 37] .nils .nils S = some (.nils, S)) := by intros; exact ap_zero del37 rfl (by simp)
theorem fd37_8 : (∀ {S : Mem}, appendD Try.prog #[37, 37] .sl0 .nils S = some (.sl0, S)) := by intros; exact ap_zero del37 rfl (by simp)
theorem fd37_9 : (∀ {own : Option Nat} {len : Nat} {cells : List D} {S : Mem}, appendD Try.prog #[37, 37] (.sl own 5 len cells) .nils S = some ((.sl own 5 len cells), S)) := by intros; exact ap_zero del37 rfl (by simp)
theorem fd37_10 : (∀ {S : Mem}, appendD Try.prog #[37, 37] .nils .sl0 S = some (.nils, S)) := by intros; exact ap_zero del37 rfl (by simp)
theorem fd37_11 : (∀ {S : Mem}, appendD Try.prog #[37, 37] .sl0 .sl0 S = some (.sl0, S)) := by intros; exact ap_zero del37 rfl (by simp)
theorem fd37_12 : (∀ {own : Option Nat} {len : Nat} {cells : List D} {S : Mem}, appendD Try.prog #[37, 37] (.sl own 5 len cells) .sl0 S = some ((.sl own 5 len cells), S)) := by intros; exact ap_zero del37 rfl (by simp)
theorem fd37_13 : (∀ {S : Mem}, appendD Try.prog #[37, 37] .nils .slx S = some (.nils, S)) := by intros; exact ap_zero del37 rfl (by simp)
theorem fd37_14 : (∀ {S : Mem}, appendD Try.prog #[37, 37] .sl0 .slx S = some (.sl0, S)) := by intros; exact ap_zero del37 rfl (by simp)
theorem fd37_15 : (∀ {own : Option Nat} {len : Nat} {cells : List D} {S : Mem}, appendD Try.prog #[37, 37] (.sl own 5 len cells) .slx S = some ((.sl own 5 len cells), S)) := by intros; exact ap_zero del37 rfl (by simp)
theorem fd37_16 : (∀ {own : Option Nat} {m : Nat} {new : List D} {S : Mem}, appendD Try.prog #[37, 37] .nils (.sl own 5 m new) S = if m = 0 then some (.nils, S) else if fitsD 72 m new then some (.sl (some S.length) 5 m new, S ++ [.own]) else none) := ap_nils del37
theorem fd37_17 : (∀ {own : Option Nat} {m : Nat} {new : List D} {S : Mem}, appendD Try.prog #[37, 37] .sl0 (.sl own 5 m new) S = if m = 0 then some (.sl0, S) else if fitsD 72 m new then some (.sl (some S.length) 5 m new, S ++ [.own]) else none) := ap_sl0 del37
theorem fd37_18 : (∀ {own : Option Nat} {id m len : Nat} {cells new : List D} {S : Mem}, appendD Try.prog #[37, 37] (.sl (some id) 5 len cells) (.sl own 5 m new) S = if m = 0 then some (.sl (some id) 5 len cells, S) else if fitsD 72 (len + m) new then (match S[id]? with | some .own => some (.sl (some S.length) 5 (len + m) (cells ++ new), S.set id .dead ++ [.own]) | _ => none) else none) := ap_own del37
theorem fd37_19 : (∀ {own : Option Nat} {len : Nat} {cells : List D} {S : Mem}, builtinD Try.prog .len #[37] [.sl own 5 len cells] S = some (.int .i64 len, S)) := len_sl rfl Try.underlying37
theorem fd37_20 : (∀ {S : Mem}, builtinD Try.prog .len #[37] [.nils] S = some (.int .i64 0, S)) := len_nil rfl Try.underlying37
theorem fd37_21 : (∀ {x y : Operand}, binD Try.prog .eql 37 x y .nils .nils = some (.bool true) ∧ binD Try.prog .eql 37 x y .slx .nils = some (.bool false) ∧ (∀ {own sz n cells}, binD Try.prog .eql 37 x y (.sl own sz (n + 1) cells) .nils = some (.bool false)) ∧ binD Try.prog .neq 37 x y .nils .nils = some (.bool false) ∧ binD Try.prog .neq 37 x y .slx .nils = some (.bool true) ∧ (∀ {own sz n cells}, binD Try.prog .neq 37 x y (.sl own sz (n + 1) cells) .nils = some (.bool true))) := eq_nils Try.underlying37
theorem fd37_22 : (∀ {S : Mem}, builtinD Try.prog .len #[37] [.slx] S = some (.int .i64 0, S)) := len_slx rfl Try.underlying37
theorem fd37_23 : (∀ {S : Mem}, builtinD Try.prog .len #[37] [.sl0] S = some (.int .i64 0, S)) := len_nil0 rfl Try.underlying37
theorem fd43_0 : (Try.prog.underlying 43 = some (.slice 2)) := Try.underlying43
theorem fd43_1 : (∀ {x : D} {S : Mem}, loadD Try.prog 43 x S = (cellsAt x S).bind fun p => p.1[p.2]?) := ld_one dag43
theorem fd43_2 : (∀ {o off : Nat} {S : Mem} {v : D}, cellsD v = some [v] → D.one v = true → storeD Try.prog 43 (.ptr o off) v S = (objAt S o).bind fun cells => if off + 1 ≤ cells.length then some (S.set o (.obj (wr cells off [v]))) else none) := fun h1 h2 => st_cells dsz43 h1 rfl (by simp [h2])
theorem fd43_3 : (∀ {ρ : DEnv} {S : Mem}, opD Try.prog ρ (.alloc 43) S = some (.ptr S.length 0, S ++ [.obj [.nils]])) := al_cells dze43 (by simp [scalarV, Value.cells])
theorem fd43_4 : (∀ {own : Option Nat} {len : Nat} {cells : List D} {k : IntKind} {i : Int}, indexAtD Try.prog 43 (.sl own 1 len cells) (.int k i) = if 0 ≤ i ∧ i < len then some (.eptr cells (i.toNat * 1)) else none) := ix_sl Try.underlying43 dsz2
theorem fd43_5 : (∀ {own : Option Nat} {len : Nat} {cells : List D} {lo hi mx : Option D}, sliceD Try.prog 43 (.sl own 1 len cells) lo hi mx = (optNatD lo).bind fun l => (optNatD hi).bind fun h => (optNatD mx).bind fun m => if m.isSome = true ∧ h.isNone = true then none else cutD own 1 len cells (l.getD 0) (h.getD len) m) := cut_sl Try.underlying43 dsz2
theorem fd43_6 : (∀ {n : Nat} {ps : List (Nat × D)} {S : Mem}, buildSliceD Try.prog 43 n ps S = if n * 1 > 2 ^ 24 then none else (fillD (fun i => some (i * 1, 1)) (repD [.int .i64 0] n) ps).bind fun cells => if cells.all D.one = true then some (.sl (some S.length) 1 n cells, S ++ [.own]) else none) := bs_slice Try.underlying43 dsz2 dze2 (by simp [scalarV, Value.cells]) rfl
theorem fd43_7 : (∀ {S : Mem}, appendD Try.prog #[43, 43] .nils .nils S = some (.nils, S)) := by intros; exact ap_zero del43 rfl (by simp)
theorem fd43_8 : (∀ {S : Mem}, appendD Try.prog #[43, 43] .sl0 .nils S = some (.sl0, S)) := by intros; exact ap_zero del43 rfl (by simp)
theorem fd43_9 : (∀ {own : Option Nat} {len : Nat} {cells : List D} {S : Mem}, appendD Try.prog #[43, 43] (.sl own 1 len cells) .nils S = some ((.sl own 1 len cells), S)) := by intros; exact ap_zero del43 rfl (by simp)
theorem fd43_10 : (∀ {S : Mem}, appendD Try.prog #[43, 43] .nils .sl0 S = some (.nils, S)) := by intros; exact ap_zero del43 rfl (by simp)
theorem fd43_11 : (∀ {S : Mem}, appendD Try.prog #[43, 43] .sl0 .sl0 S = some (.sl0, S)) := by intros; exact ap_zero del43 rfl (by simp)
theorem fd43_12 : (∀ {own : Option Nat} {len : Nat} {cells : List D} {S : Mem}, appendD Try.prog #[43, 43] (.sl own 1 len cells) .sl0 S = some ((.sl own 1 len cells), S)) := by intros; exact ap_zero del43 rfl (by simp)
theorem fd43_13 : (∀ {S : Mem}, appendD Try.prog #[43, 43] .nils .slx S = some (.nils, S)) := by intros; exact ap_zero del43 rfl (by simp)
theorem fd43_14 : (∀ {S : Mem}, appendD Try.prog #[43, 43] .sl0 .slx S = some (.sl0, S)) := by intros; exact ap_zero del43 rfl (by simp)
theorem fd43_15 : (∀ {own : Option Nat} {len : Nat} {cells : List D} {S : Mem}, appendD Try.prog #[43, 43] (.sl own 1 len cells) .slx S = some ((.sl own 1 len cells), S)) := by intros; exact ap_zero del43 rfl (by simp)
theorem fd43_16 : (∀ {own : Option Nat} {m : Nat} {new : List D} {S : Mem}, appendD Try.prog #[43, 43] .nils (.sl own 1 m new) S = if m = 0 then some (.nils, S) else if fitsD 8 m new then some (.sl (some S.length) 1 m new, S ++ [.own]) else none) := ap_nils del43
theorem fd43_17 : (∀ {own : Option Nat} {m : Nat} {new : List D} {S : Mem}, appendD Try.prog #[43, 43] .sl0 (.sl own 1 m new) S = if m = 0 then some (.sl0, S) else if fitsD 8 m new then some (.sl (some S.length) 1 m new, S ++ [.own]) else none) := ap_sl0 del43
theorem fd43_18 : (∀ {own : Option Nat} {id m len : Nat} {cells new : List D} {S : Mem}, appendD Try.prog #[43, 43] (.sl (some id) 1 len cells) (.sl own 1 m new) S = if m = 0 then some (.sl (some id) 1 len cells, S) else if fitsD 8 (len + m) new then (match S[id]? with | some .own => some (.sl (some S.length) 1 (len + m) (cells ++ new), S.set id .dead ++ [.own]) | _ => none) else none) := ap_own del43
theorem fd43_19 : (∀ {own : Option Nat} {len : Nat} {cells : List D} {S : Mem}, builtinD Try.prog .len #[43] [.sl own 1 len cells] S = some (.int .i64 len, S)) := len_sl rfl Try.underlying43
theorem fd43_20 : (∀ {S : Mem}, builtinD Try.prog .len #[43] [.nils] S = some (.int .i64 0, S)) := len_nil rfl Try.underlying43
theorem fd43_21 : (∀ {x y : Operand}, binD Try.prog .eql 43 x y .nils .nils = some (.bool true) ∧ binD Try.prog .eql 43 x y .slx .nils = some (.bool false) ∧ (∀ {own sz n cells}, binD Try.prog .eql 43 x y (.sl own sz (n + 1) cells) .nils = some (.bool false)) ∧ binD Try.prog .neq 43 x y .nils .nils = some (.bool false) ∧ binD Try.prog .neq 43 x y .slx .nils = some (.bool true) ∧ (∀ {own sz n cells}, binD Try.prog .neq 43 x y (.sl own sz (n + 1) cells) .nils = some (.bool true))) := eq_nils Try.underlying43
theorem fd43_22 : (∀ {S : Mem}, builtinD Try.prog .len #[43] [.slx] S = some (.int .i64 0, S)) := len_slx rfl Try.underlying43
theorem fd43_23 : (∀ {S : Mem}, builtinD Try.prog .len #[43] [.sl0] S = some (.int .i64 0, S)) := len_nil0 rfl Try.underlying43
theorem fd44_0 : (Try.prog.underlying 44 = some (.int .u16)) := Try.underlying44
theorem fd44_1 : (∀ {x : D} {S : Mem}, loadD Try.prog 44 x S = (cellsAt x S).bind fun p => p.1[p.2]?) := ld_one dag44
theorem fd44_2 : (∀ {o off : Nat} {S : Mem} {v : D}, cellsD v = some [v] → D.one v = true → storeD Try.prog 44 (.ptr o off) v S = (objAt S o).bind fun cells => if off + 1 ≤ cells.length then some (S.set o (.obj (wr cells off [v]))) else none) := fun h1 h2 => st_cells dsz44 h1 rfl (by simp [h2])
theorem fd44_3 : (∀ {ρ : DEnv} {S : Mem}, opD Try.prog ρ (.alloc 44) S = some (.ptr S.length 0, S ++ [.obj [.int .u16 0]])) := al_cells dze44 (by simp [scalarV, Value.cells])
theorem fd44_4 : (∀ {S : Mem} {k : IntKind} {n : Int}, convD Try.prog 2 44 (.int k n) S = some (.int .u16 (IntKind.wrap .u16 n), S)) := conv_int Try.underlying2 Try.underlying44
theorem fd44_5 : (∀ {S : Mem} {k : IntKind} {n : Int}, convD Try.prog 3 44 (.int k n) S = some (.int .u16 (IntKind.wrap .u16 n), S)) := conv_int Try.underlying3 Try.underlying44
theorem fd44_6 : (∀ {S : Mem} {k : IntKind} {n : Int}, convD Try.prog 5 44 (.int k n) S = some (.int .u16 (IntKind.wrap .u16 n), S)) := conv_int Try.underlying5 Try.underlying44
theorem fd44_7 : (∀ {S : Mem} {k : IntKind} {n : Int}, convD Try.prog 44 44 (.int k n) S = some (.int .u16 (IntKind.wrap .u16 n), S)) := conv_int Try.underlying44 Try.underlying44
theorem fd44_8 : (∀ {S : Mem} {k : IntKind} {n : Int}, convD Try.prog 47 44 (.int k n) S = some (.int .u16 (IntKind.wrap .u16 n), S)) := conv_int Try.underlying47 Try.underlying44
theorem fd44_9 : (∀ {S : Mem} {k : IntKind} {n : Int}, convD Try.prog 96 44 (.int k n) S = some (.int .u16 (IntKind.wrap .u16 n), S)) := conv_int Try.underlying96 Try.underlying44
theorem fd45_0 : (Try.prog.underlying 45 = some (.slice 9)) := Try.underlying45
theorem fd45_1 : (∀ {x : D} {S : Mem}, loadD Try.prog 45 x S = (cellsAt x S).bind fun p => p.1[p.2]?) := ld_one dag45
theorem fd45_2 : (∀ {o off : Nat} {S : Mem} {v : D}, cellsD v = some [v] → D.one v = true → storeD Try.prog 45 (.ptr o off) v S = (objAt S o).bind fun cells => if off + 1 ≤ cells.length then some (S.set o (.obj (wr cells off [v]))) else none) := fun h1 h2 => st_cells dsz45 h1 rfl (by simp [h2])
theorem fd45_3 : (∀ {ρ : DEnv} {S : Mem}, opD Try.prog ρ (.alloc 45) S = some (.ptr S.length 0, S ++ [.obj [.nils]])) := al_cells dze45 (by simp [scalarV, Value.cells])
theorem fd45_4 : (∀ {own : Option Nat} {len : Nat} {cells : List D} {k : IntKind} {i : Int}, indexAtD Try.prog 45 (.sl own 1 len cells) (.int k i) = if 0 ≤ i ∧ i < len then some (.eptr cells (i.toNat * 1)) else none) := ix_sl Try.underlying45 dsz9
theorem fd45_5 : (∀ {own : Option Nat} {len : Nat} {cells : List D} {lo hi mx : Option D}, sliceD Try.prog 45 (.sl own 1 len cells) lo hi mx = (optNatD lo).bind fun l => (optNatD hi).bind fun h => (optNatD mx).bind fun m => if m.isSome = true ∧ h.isNone = true then none else cutD own 1 len cells (l.getD 0) (h.getD len) m) := cut_sl Try.underlying45 dsz9
theorem fd45_6 : (∀ {n : Nat} {ps : List (Nat × D)} {S : Mem}, buildSliceD Try.prog 45 n ps S = if n * 1 > 2 ^ 24 then none else (fillD (fun i => some (i * 1, 1)) (repD [.str ⟨#[]⟩] n) ps).bind fun cells => if cells.all D.one = true then some (.sl (some S.length) 1 n cells, S ++ [.own]) else none) := bs_slice Try.underlying45 dsz9 dze9 (by simp [scalarV, Value.cells]) rfl
theorem fd45_7 : (∀ {S : Mem}, appendD Try.prog #[45, 45] .nils .nils S = some (.nils, S)) := by intros; exact ap_zero del45 rfl (by simp)
theorem fd45_8 : (∀ {S : Mem}, appendD Try.prog #[45, 45] .sl0 .nils S = some (.sl0, S)) := by intros; exact ap_zero del45 rfl (by simp)
theorem fd45_9 : (∀ {own : Option Nat} {len : Nat} {cells : List D} {S : Mem}, appendD Try.prog #[45, 45] (.sl own 1 len cells) .nils S = some ((.sl own 1 len cells), S)) := by intros; exact ap_zero del45 rfl (by simp)
theorem fd45_10 : (∀ {S : Mem}, appendD Try.prog #[45, 45] .nils .sl0 S = some (.nils, S)) := by intros; exact ap_zero del45 rfl (by simp)
theorem fd45_11 : (∀ {S : Mem}, appendD Try.prog #[45, 45] .sl0 .sl0 S = some (.sl0, S)) := by intros; exact ap_zero del45 rfl (by simp)
theorem fd45_12 : (∀ {own : Option Nat} {len : Nat} {cells : List D} {S : Mem}, appendD Try.prog #[45, 45] (.sl own 1 len cells) .sl0 S = some ((.sl own 1 len cells), S)) := by intros; exact ap_zero del45 rfl (by simp)
theorem fd45_13 : (∀ {S : Mem}, appendD Try.prog #[45, 45] .nils .slx S = some (.nils, S)) := by intros; exact ap_zero del45 rfl (by simp)
theorem fd45_14 : (∀ {S : Mem}, appendD Try.prog #[45, 45] .sl0 .slx S = some (.sl0, S)) := by intros; exact ap_zero del45 rfl (by simp)
theorem fd45_15 : (∀ {own : Option Nat} {len : Nat} {cells : List D} {S : Mem}, appendD Try.prog #[45, 45] (.sl own 1 len cells) .slx S = some ((.sl own 1 len cells), S)) := by intros; exact ap_zero del45 rfl (by simp)
theorem fd45_16 : (∀ {own : Option Nat} {m : Nat} {new : List D} {S : Mem}, appendD Try.prog #[45, 45] .nils (.sl own 1 m new) S = if m = 0 then some (.nils, S) else if fitsD 16 m new then some (.sl (some S.length) 1 m new, S ++ [.own]) else none) := ap_nils del45
theorem fd45_17 : (∀ {own : Option Nat} {m : Nat} {new : List D} {S : Mem}, appendD Try.prog #[45, 45] .sl0 (.sl own 1 m new) S = if m = 0 then some (.sl0, S) else if fitsD 16 m new then some (.sl (some S.length) 1 m new, S ++ [.own]) else none) := ap_sl0 del45
theorem fd45_18 : (∀ {own : Option Nat} {id m len : Nat} {cells new : List D} {S : Mem}, appendD Try.prog #[45, 45] (.sl (some id) 1 len cells) (.sl own 1 m new) S = if m = 0 then some (.sl (some id) 1 len cells, S) else if fitsD 16 (len + m) new then (match S[id]? with | some .own => some (.sl (some S.length) 1 (len + m) (cells ++ new), S.set id .dead ++ [.own]) | _ => none) else none) := ap_own del45
theorem fd45_19 : (∀ {own : Option Nat} {len : Nat} {cells : List D} {S : Mem}, builtinD Try.prog .len #[45] [.sl own 1 len cells] S = some (.int .i64 len, S)) := len_sl rfl Try.underlying45
theorem fd45_20 : (∀ {S : Mem}, builtinD Try.prog .len #[45] [.nils] S = some (.int .i64 0, S)) := len_nil rfl Try.underlying45
theorem fd45_21 : (∀ {x y : Operand}, binD Try.prog .eql 45 x y .nils .nils = some (.bool true) ∧ binD Try.prog .eql 45 x y .slx .nils = some (.bool false) ∧ (∀ {own sz n cells}, binD Try.prog .eql 45 x y (.sl own sz (n + 1) cells) .nils = some (.bool false)) ∧ binD Try.prog .neq 45 x y .nils .nils = some (.bool false) ∧ binD Try.prog .neq 45 x y .slx .nils = some (.bool true) ∧ (∀ {own sz n cells}, binD Try.prog .neq 45 x y (.sl own sz (n + 1) cells) .nils = some (.bool true))) := eq_nils Try.underlying45
theorem fd45_22 : (∀ {S : Mem}, builtinD Try.prog .len #[45] [.slx] S = some (.int .i64 0, S)) := len_slx rfl Try.underlying45
theorem fd45_23 : (∀ {S : Mem}, builtinD Try.prog .len #[45] [.sl0] S = some (.int .i64 0, S)) := len_nil0 rfl Try.underlying45
theorem fd47_0 : (Try.prog.underlying 47 = some (.int .u64)) := Try.underlying47
theorem fd47_1 : (∀ {x : D} {S : Mem}, loadD Try.prog 47 x S = (cellsAt x S).bind fun p => p.1[p.2]?) := ld_one dag47
theorem fd47_2 : (∀ {o off : Nat} {S : Mem} {v : D}, cellsD v = some [v] → D.one v = true → storeD Try.prog 47 (.ptr o off) v S = (objAt S o).bind fun cells => if off + 1 ≤ cells.length then some (S.set o (.obj (wr cells off [v]))) else none) := fun h1 h2 => st_cells dsz47 h1 rfl (by simp [h2])
theorem fd47_3 : (∀ {ρ : DEnv} {S : Mem}, opD Try.prog ρ (.alloc 47) S = some (.ptr S.length 0, S ++ [.obj [.int .u64 0]])) := al_cells dze47 (by simp [scalarV, Value.cells])
theorem fd47_4 : (∀ {S : Mem} {k : IntKind} {n : Int}, convD Try.prog 2 47 (.int k n) S = some (.int .u64 (IntKind.wrap .u64 n), S)) := conv_int Try.underlying2 Try.underlying47
theorem fd47_5 : (∀ {S : Mem} {k : IntKind} {n : Int}, convD Try.prog 3 47 (.int k n) S = some (.int .u64 (IntKind.wrap .u64 n), S)) := conv_int Try.underlying3 Try.underlying47
theorem fd47_6 : (∀ {S : Mem} {k : IntKind} {n : Int}, convD Try.prog 5 47 (.int k n) S = some (.int .u64 (IntKind.wrap .u64 n), S)) := conv_int Try.underlying5 Try.underlying47
theorem fd47_7 : (∀ {S : Mem} {k : IntKind} {n : Int}, convD Try.prog 44 47 (.int k n) S = some (.int .u64 (IntKind.wrap .u64 n), S)) := conv_int Try.underlying44 Try.underlying47
theorem fd47_8 : (∀ {S : Mem} {k : IntKind} {n : Int}, convD Try.prog 47 47 (.int k n) S = some (.int .u64 (IntKind.wrap .u64 n), S)) := conv_int Try.underlying47 Try.underlying47
theorem fd47_9 : (∀ {S : Mem} {k : IntKind} {n : Int}, convD Try.prog 96 47 (.int k n) S = some (.int .u64 (IntKind.wrap .u64 n), S)) := conv_int Try.underlying96 Try.underlying47
theorem fd49_0 : (∀ {x : D} {S : Mem}, loadD Try.prog 49 x S = (cellsAt x S).bind fun p => if p.2 + 4 ≤ p.1.length then some (.agg ((p.1.drop p.2).take 4)) else none) := ld_agg dag49 dsz49
theorem fd49_1 : (∀ {o off : Nat} {S : Mem} {x0 x1 x2 x3 : D}, ([x0, x1, x2, x3] : List D).all D.one = true → storeD Try.prog 49 (.ptr o off) (.agg [x0, x1, x2, x3]) S = (objAt S o).bind fun cells => if off + 4 ≤ cells.length then some (S.set o (.obj (wr cells off [x0, x1, x2, x3]))) else none) := fun h => st_cells dsz49 rfl rfl h
theorem fd49_2 : (∀ {ρ : DEnv} {S : Mem}, opD Try.prog ρ (.alloc 49) S = some (.ptr S.length 0, S ++ [.obj [.int .i64 0, .int .i64 0, .str ⟨#[]⟩, .nils]])) := al_cells dze49 (by simp [scalarV, Value.cells])
theorem fd49_3 : (∀ {o off : Nat}, fieldAtD Try.prog 49 (.ptr o off) 0 = some (.ptr o (off + 0))) := by simp [fieldAtD, Try.underlying49, dsz3]
theorem fd49_4 : (∀ {c : List D} {off : Nat}, fieldAtD Try.prog 49 (.eptr c off) 0 = some (.eptr c (off + 0))) := by simp [fieldAtD, Try.underlying49, dsz3]
theorem fd49_5 : (∀ {o off : Nat}, fieldAtD Try.prog 49 (.ptr o off) 1 = some (.ptr o (off + 1))) := by simp [fieldAtD, Try.underlying49, dsz2]
theorem fd49_6 : (∀ {c : List D} {off : Nat}, fieldAtD Try.prog 49 (.eptr c off) 1 = some (.eptr c (off + 1))) := by simp [fieldAtD, Try.underlying49, dsz2]
theorem fd49_7 : (∀ {o off : Nat}, fieldAtD Try.prog 49 (.ptr o off) 2 = some (.ptr o (off + 2))) := by simp [fieldAtD, Try.underlying49, dsz9]
theorem fd49_8 : (∀ {c : List D} {off : Nat}, fieldAtD Try.prog 49 (.eptr c off) 2 = some (.eptr c (off + 2))) := by simp [fieldAtD, Try.underlying49, dsz9]
theorem fd49_9 : (∀ {o off : Nat}, fieldAtD Try.prog 49 (.ptr o off) 3 = some (.ptr o (off + 3))) := by simp [fieldAtD, Try.underlying49, dsz43]
theorem fd49_10 : (∀ {c : List D} {off : Nat}, fieldAtD Try.prog 49 (.eptr c off) 3 = some (.eptr c (off + 3))) := by simp [fieldAtD, Try.underlying49, dsz43]
theorem fd49_11 : (∀ {ps : List (Nat × D)}, buildD Try.prog 49 ps = (fillD (fun i => ([(0, 1), (1, 1), (2, 1), (3, 1)] : List (Nat × Nat))[i]?) [.int .i64 0, .int .i64 0, .str ⟨#[]⟩, .nils] ps).map .agg) := bd_struct Try.underlying49 dpl49 dze49 (by simp [scalarV, Value.cells])
theorem fd51_0 : (∀ {x : D} {S : Mem}, loadD Try.prog 51 x S = (cellsAt x S).bind fun p => if p.2 + 5 ≤ p.1.length then some (.agg ((p.1.drop p.2).take 5)) else none) := ld_agg dag51 dsz51
theorem fd51_1 : (∀ {o off : Nat} {S : Mem} {x0 x1 x2 x3 x4 : D}, ([x0, x1, x2, x3, x4] : List D).all D.one = true → storeD Try.prog 51 (.ptr o off) (.agg [x0, x1, x2, x3, x4]) S = (objAt S o).bind fun cells => if off + 5 ≤ cells.length then some (S.set o (.obj (wr cells off [x0, x1, x2, x3, x4]))) else none) := fun h => st_cells dsz51 rfl rfl h
theorem fd51_2 : (∀ {ρ : DEnv} {S : Mem}, opD Try.prog ρ (.alloc 51) S = some (.ptr S.length 0, S ++ [.obj [.str ⟨#[]⟩, .int .i64 0, .int .i64 0, .str ⟨#[]⟩, .nils]])) := al_cells dze51 (by simp [scalarV, Value.cells])
theorem fd51_3 : (∀ {o off : Nat}, fieldAtD Try.prog 51 (.ptr o off) 0 = some (.ptr o (off + 0))) := by simp [fieldAtD, Try.underlying51, dsz9]
theorem fd51_4 : (∀ {c : List D} {off : Nat}, fieldAtD Try.prog 51 (.eptr c off) 0 = some (.eptr c (off + 0))) := by simp [fieldAtD, Try.underlying51, dsz9]
theorem fd51_5 : (∀ {o off : Nat}, fieldAtD Try.prog 51 (.ptr o off) 1 = some (.ptr o (off + 1))) := by simp [fieldAtD, Try.underlying51, dsz49]
theorem fd51_6 : (∀ {c : List D} {off : Nat}, fieldAtD Try.prog 51 (.eptr c off) 1 = some (.eptr c (off + 1))) := by simp [fieldAtD, Try.underlying51, dsz49]
theorem fd51_7 : (∀ {ps : List (Nat × D)}, buildD Try.prog 51 ps = (fillD (fun i => ([(0, 1), (1, 4)] : List (Nat × Nat))[i]?) [.str ⟨#[]⟩, .int .i64 0, .int .i64 0, .str ⟨#[]⟩, .nils] ps).map .agg) := bd_struct Try.underlying51 dpl51 dze51 (by simp [scalarV, Value.cells])
theorem fd57_0 : (∀ {x : D} {S : Mem}, loadD Try.prog 57 x S = (cellsAt x S).bind fun p => if p.2 + 4 ≤ p.1.length then some (.agg ((p.1.drop p.2).take 4)) else none) := ld_agg dag57 dsz57
theorem fd57_1 : (∀ {o off : Nat} {S : Mem} {x0 x1 x2 x3 : D}, ([x0, x1, x2, x3] : List D).all D.one = true → storeD Try.prog 57 (.ptr o off) (.agg [x0, x1, x2, x3]) S = (objAt S o).bind fun cells => if off + 4 ≤ cells.length then some (S.set o (.obj (wr cells off [x0, x1, x2, x3]))) else none) := fun h => st_cells dsz57 rfl rfl h
theorem fd57_2 : (∀ {ρ : DEnv} {S : Mem}, opD Try.prog ρ (.alloc 57) S = some (.ptr S.length 0, S ++ [.obj [.int .i64 0, .int .i64 0, .int .i64 0, .str ⟨#[]⟩]])) := al_cells dze57 (by simp [scalarV, Value.cells])
theorem fd57_3 : (∀ {o off : Nat}, fieldAtD Try.prog 57 (.ptr o off) 0 = some (.ptr o (off + 0))) := by simp [fieldAtD, Try.underlying57, dsz2]
theorem fd57_4 : (∀ {c : List D} {off : Nat}, fieldAtD Try.prog 57 (.eptr c off) 0 = some (.eptr c (off + 0))) := by simp [fieldAtD, Try.underlying57, dsz2]
theorem fd57_5 : (∀ {o off : Nat}, fieldAtD Try.prog 57 (.ptr o off) 1 = some (.ptr o (off + 1))) := by simp [fieldAtD, Try.underlying57, dsz2]
theorem fd57_6 : (∀ {c : List D} {off : Nat}, fieldAtD Try.prog 57 (.eptr c off) 1 = some (.eptr c (off + 1))) := by simp [fieldAtD, Try.underlying57, dsz2]
theorem fd57_7 : (∀ {o off : Nat}, fieldAtD Try.prog 57 (.ptr o off) 2 = some (.ptr o (off + 2))) := by simp [fieldAtD, Try.underlying57, dsz2]
theorem fd57_8 : (∀ {c : List D} {off : Nat}, fieldAtD Try.prog 57 (.eptr c off) 2 = some (.eptr c (off + 2))) := by simp [fieldAtD, Try.underlying57, dsz2]
theorem fd57_9 : (∀ {o off : Nat}, fieldAtD Try.prog 57 (.ptr o off) 3 = some (.ptr o (off + 3))) := by simp [fieldAtD, Try.underlying57, dsz9]
theorem fd57_10 : (∀ {c : List D} {off : Nat}, fieldAtD Try.prog 57 (.eptr c off) 3 = some (.eptr c (off + 3))) := by simp [fieldAtD, Try.underlying57, dsz9]
theorem fd57_11 : (∀ {ps : List (Nat × D)}, buildD Try.prog 57 ps = (fillD (fun i => ([(0, 1), (1, 1), (2, 1), (3, 1)] : List (Nat × Nat))[i]?) [.int .i64 0, .int .i64 0, .int .i64 0, .str ⟨#[]⟩] ps).map .agg) := bd_struct Try.underlying57 dpl57 dze57 (by simp [scalarV, Value.cells])
theorem fd59_0 : (∀ {x : D} {S : Mem}, loadD Try.prog 59 x S = (cellsAt x S).bind fun p => if p.2 + 6 ≤ p.1.length then some (.agg ((p.1.drop p.2).take 6)) else none) := ld_agg dag59 dsz59
theorem fd59_1 : (∀ {o off : Nat} {S : Mem} {x0 x1 x2 x3 x4 x5 : D}, ([x0, x1, x2, x3, x4, x5] : List D).all D.one = true → storeD Try.prog 59 (.ptr o off) (.agg [x0, x1, x2, x3, x4, x5]) S = (objAt S o).bind fun cells => if off + 6 ≤ cells.length then some (S.set o (.obj (wr cells off [x0, x1, x2, x3, x4, x5]))) else none) := fun h => st_cells dsz59 rfl rfl h
theorem fd59_2 : (∀ {ρ : DEnv} {S : Mem}, opD Try.prog ρ (.alloc 59) S = some (.ptr S.length 0, S ++ [.obj [.str ⟨#[]⟩, .int .i64 0, .int .i64 0, .int .i64 0, .str ⟨#[]⟩, .nils]])) := al_cells dze59 (by simp [scalarV, Value.cells])
theorem fd59_3 : (∀ {o off : Nat}, fieldAtD Try.prog 59 (.ptr o off) 0 = some (.ptr o (off + 0))) := by simp [fieldAtD, Try.underlying59, dsz9]
theorem fd59_4 : (∀ {c : List D} {off : Nat}, fieldAtD Try.prog 59 (.eptr c off) 0 = some (.eptr c (off + 0))) := by simp [fieldAtD, Try.underlying59, dsz9]
theorem fd59_5 : (∀ {o off : Nat}, fieldAtD Try.prog 59 (.ptr o off) 1 = some (.ptr o (off + 1))) := by simp [fieldAtD, Try.underlying59, dsz57]
theorem fd59_6 : (∀ {c : List D} {off : Nat}, fieldAtD Try.prog 59 (.eptr c off) 1 = some (.eptr c (off + 1))) := by simp [fieldAtD, Try.underlying59, dsz57]
theorem fd59_7 : (∀ {o off : Nat}, fieldAtD Try.prog 59 (.ptr o off) 2 = some (.ptr o (off + 5))) := by simp [fieldAtD, Try.underlying59, dsz37]
theorem fd59_8 : (∀ {c : List D} {off : Nat}, fieldAtD Try.prog 59 (.eptr c off) 2 = some (.eptr c (off + 5))) := by simp [fieldAtD, Try.underlying59, dsz37]
theorem fd59_9 : (∀ {ps : List (Nat × D)}, buildD Try.prog 59 ps = (fillD (fun i => ([(0, 1), (1, 4), (5, 1)] : List (Nat × Nat))[i]?) [.str ⟨#[]⟩, .int .i64 0, .int .i64 0, .int .i64 0, .str ⟨#[]⟩, .nils] ps).map .agg) := bd_struct Try.underlying59 dpl59 dze59 (by simp [scalarV, Value.cells])
theorem fd61_0 : (∀ {x : D} {S : Mem}, loadD Try.prog 61 x S = (cellsAt x S).bind fun p => if p.2 + 2 ≤ p.1.length then some (.agg ((p.1.drop p.2).take 2)) else none) := ld_agg dag61 dsz61
theorem fd61_1 : (∀ {o off : Nat} {S : Mem} {x0 x1 : D}, ([x0, x1] : List D).all D.one = true → storeD Try.prog 61 (.ptr o off) (.agg [x0, x1]) S = (objAt S o).bind fun cells => if off + 2 ≤ cells.length then some (S.set o (.obj (wr cells off [x0, x1]))) else none) := fun h => st_cells dsz61 rfl rfl h
theorem fd61_2 : (∀ {ρ : DEnv} {S : Mem}, opD Try.prog ρ (.alloc 61) S = some (.ptr S.length 0, S ++ [.obj [.int .i64 0, .bool false]])) := al_cells dze61 (by simp [scalarV, Value.cells])
theorem fd61_3 : (∀ {o off : Nat}, fieldAtD Try.prog 61 (.ptr o off) 0 = some (.ptr o (off + 0))) := by simp [fieldAtD, Try.underlying61, dsz2]
theorem fd61_4 : (∀ {c : List D} {off : Nat}, fieldAtD Try.prog 61 (.eptr c off) 0 = some (.eptr c (off + 0))) := by simp [fieldAtD, Try.underlying61, dsz2]
theorem fd61_5 : (∀ {o off : Nat}, fieldAtD Try.prog 61 (.ptr o off) 1 = some (.ptr o (off + 1))) := by simp [fieldAtD, Try.underlying61, dsz4]
theorem fd61_6 : (∀ {c : List D} {off : Nat}, fieldAtD Try.prog 61 (.eptr c off) 1 = some (.eptr c (off + 1))) := by simp [fieldAtD, Try.underlying61, dsz4]
theorem fd61_7 : (∀ {ps : List (Nat × D)}, buildD Try.prog 61 ps = (fillD (fun i => ([(0, 1), (1, 1)] : List (Nat × Nat))[i]?) [.int .i64 0, .bool false] ps).map .agg) := bd_struct Try.underlying61 dpl61 dze61 (by simp [scalarV, Value.cells])
theorem fd63_0 : (Try.prog.underlying 63 = some (.slice 61)) := Try.underlying63
theorem fd63_1 : (∀ {x : D} {S : Mem}, loadD Try.prog 63 x S = (cellsAt x S).bind fun p => p.1[p.2]?) := ld_one dag63
theorem fd63_2 : (∀ {o off : Nat} {S : Mem} {v : D}, cellsD v = some [v] → D.one v = true → storeD Try.prog 63 (.ptr o off) v S = (objAt S o).bind fun cells => if off + 1 ≤ cells.length then some (S.set o (.obj (wr cells off [v]))) else none) := fun h1 h2 => st_cells dsz63 h1 rfl (by simp [h2])
theorem fd63_3 : (∀ {ρ : DEnv} {S : Mem}, opD Try.prog ρ (.alloc 63) S = some (.ptr S.length 0, S ++ [.obj [.nils]])) := al_cells dze63 (by simp [scalarV, Value.cells])
theorem fd63_4 : (∀ {own : Option Nat} {len : Nat} {cells : List D} {k : IntKind} {i : Int}, indexAtD Try.prog 63 (.sl own 2 len cells) (.int k i) = if 0 ≤ i ∧ i < len then some (.eptr cells (i.toNat * 2)) else none) := ix_sl Try.underlying63 dsz61
theorem fd63_5 : (∀ {own : Option Nat} {len : Nat} {cells : List D} {lo hi mx : Option D}, sliceD Try.prog 63 (.sl own 2 len cells) lo hi mx = (optNatD lo).bind fun l => (optNatD hi).bind fun h => (optNatD mx).bind fun m => if m.isSome = true ∧ h.isNone = true then none else cutD own 2 len cells (l.getD 0) (h.getD len) m) := cut_sl Try.underlying63 dsz61
theorem fd63_6 : (∀ {n : Nat} {ps : List (Nat × D)} {S : Mem}, buildSliceD Try.prog 63 n ps S = if n * 2 > 2 ^ 24 then none else (fillD (fun i => some (i * 2, 2)) (repD [.int .i64 0, .bool false] n) ps).bind fun cells => if cells.all D.one = true then some (.sl (some S.length) 2 n cells, S ++ [.own]) else none) := bs_slice Try.underlying63 dsz61 dze61 (by simp [scalarV, Value.cells]) rfl
theorem fd63_7 : (∀ {S : Mem}, appendD Try.prog #[63, 63] .nils .nils S = some (.nils, S)) := by intros; exact ap_zero del63 rfl (by simp)
theorem fd63_8 : (∀ {S : Mem}, appendD Try.prog #[63, 63] .sl0 .nils S = some (.sl0, S)) := by intros; exact ap_zero del63 rfl (by simp)
theorem fd63_9 : (∀ {own : Option Nat} {len : Nat} {cells : List D} {S : Mem}, appendD Try.prog #[63, 63] (.sl own 2 len cells) .nils S = some ((.sl own 2 len cells), S)) := by intros; exact ap_zero del63 rfl (by simp)
theorem fd63_10 : (∀ {S : Mem}, appendD Try.prog #[63, 63] .nils .sl0 S = some (.nils, S)) := by intros; exact ap_zero del63 rfl (by simp)
theorem fd63_11 : (∀ {S : Mem}, appendD Try.prog #[63, 63] .sl0 .sl0 S = some (.sl0, S)) := by intros; exact ap_zero del63 rfl (by simp)
theorem fd63_12 : (∀ {own : Option Nat} {len : Nat} {cells : List D} {S : Mem}, appendD Try.prog #[63, 63] (.sl own 2 len cells) .sl0 S = some ((.sl own 2 len cells), S)) := by intros; exact ap_zero del63 rfl (by simp)
theorem fd63_13 : (∀ {S : Mem}, appendD Try.prog #[63, 63] .nils .slx S = some (.nils, S)) := by intros; exact ap_zero del63 rfl (by simp)
theorem fd63_14 : (∀ {S : Mem}, appendD Try.prog #[63, 63] .sl0 .slx S = some (.sl0, S)) := by intros; exact ap_zero del63 rfl (by simp)
theorem fd63_15 : (∀ {own : Option Nat} {len : Nat} {cells : List D} {S : Mem}, appendD Try.prog #[63, 63] (.sl own 2 len cells) .slx S = some ((.sl own 2 len cells), S)) := by intros; exact ap_zero del63 rfl (by simp)
theorem fd63_16 : (∀ {own : Option Nat} {m : Nat} {new : List D} {S : Mem}, appendD Try.prog #[63, 63] .nils (.sl own 2 m new) S = if m = 0 then some (.nils, S) else if fitsD 16 m new then some (.sl (some S.length) 2 m new, S ++ [.own]) else none) := ap_nils del63
theorem fd63_17 : (∀ {own : Option Nat} {m : Nat} {new : List D} {S : Mem}, appendD Try.prog #[63, 63] .sl0 (.sl own 2 m new) S = if m = 0 then some (.sl0, S) else if fitsD 16 m new then some (.sl (some S.length) 2 m new, S ++ [.own]) else none) := ap_sl0 del63
theorem fd63_18 : (∀ {own : Option Nat} {id m len : Nat} {cells new : List D} {S : Mem}, appendD Try.prog #[63, 63] (.sl (some id) 2 len cells) (.sl own 2 m new) S = if m = 0 then some (.sl (some id) 2 len cells, S) else if fitsD 16 (len + m) new then (match S[id]? with | some .own => some (.sl (some S.length) 2 (len + m) (cells ++ new), S.set id .dead ++ [.own]) | _ => none) else none) := ap_own del63
theorem fd63_19 : (∀ {own : Option Nat} {len : Nat} {cells : List D} {S : Mem}, builtinD Try.prog .len #[63] [.sl own 2 len cells] S = some (.int .i64 len, S)) := len_sl rfl Try.underlying63
theorem fd63_20 : (∀ {S : Mem}, builtinD Try.prog .len #[63] [.nils] S = some (.int .i64 0, S)) := len_nil rfl Try.underlying63
theorem fd63_21 : (∀ {x y : Operand}, binD Try.prog .eql 63 x y .nils .nils = some (.bool true) ∧ binD Try.prog .eql 63 x y .slx .nils = some (.bool false) ∧ (∀ {own sz n cells}, binD Try.prog .eql 63 x y (.sl own sz (n + 1) cells) .nils = some (.bool false)) ∧ binD Try.prog .neq 63 x y .nils .nils = some (.bool false) ∧ binD Try.prog .neq 63 x y .slx .nils = some (.bool true) ∧ (∀ {own sz n cells}, binD Try.prog .neq 63 x y (.sl own sz (n + 1) cells) .nils = some (.bool true))) := eq_nils Try.underlying63
theorem fd63_22 : (∀ {S : Mem}, builtinD Try.prog .len #[63] [.slx] S = some (.int .i64 0, S)) := len_slx rfl Try.underlying63
theorem fd63_23 : (∀ {S : Mem}, builtinD Try.prog .len #[63] [.sl0] S = some (.int .i64 0, S)) := len_nil0 rfl Try.underlying63
theorem fd68_0 : (∀ {x : D} {S : Mem}, loadD Try.prog 68 x S = (cellsAt x S).bind fun p => if p.2 + 4 ≤ p.1.length then some (.agg ((p.1.drop p.2).take 4)) else none) := ld_agg dag68 dsz68
theorem fd68_1 : (∀ {o off : Nat} {S : Mem} {x0 x1 x2 x3 : D}, ([x0, x1, x2, x3] : List D).all D.one = true → storeD Try.prog 68 (.ptr o off) (.agg [x0, x1, x2, x3]) S = (objAt S o).bind fun cells => if off + 4 ≤ cells.length then some (S.set o (.obj (wr cells off [x0, x1, x2, x3]))) else none) := fun h => st_cells dsz68 rfl rfl h
theorem fd68_2 : (∀ {ρ : DEnv} {S : Mem}, opD Try.prog ρ (.alloc 68) S = some (.ptr S.length 0, S ++ [.obj [.int .i64 0, .int .i64 0, .str ⟨#[]⟩, .nils]])) := al_cells dze68 (by simp [scalarV, Value.cells])
theorem fd68_3 : (∀ {o off : Nat}, fieldAtD Try.prog 68 (.ptr o off) 0 = some (.ptr o (off + 0))) := by simp [fieldAtD, Try.underlying68, dsz3]
theorem fd68_4 : (∀ {c : List D} {off : Nat}, fieldAtD Try.prog 68 (.eptr c off) 0 = some (.eptr c (off + 0))) := by simp [fieldAtD, Try.underlying68, dsz3]
theorem fd68_5 : (∀ {o off : Nat}, fieldAtD Try.prog 68 (.ptr o off) 1 = some (.ptr o (off + 1))) := by simp [fieldAtD, Try.underlying68, dsz2]
theorem fd68_6 : (∀ {c : List D} {off : Nat}, fieldAtD Try.prog 68 (.eptr c off) 1 = some (.eptr c (off + 1))) := by simp [fieldAtD, Try.underlying68, dsz2]
theorem fd68_7 : (∀ {o off : Nat}, fieldAtD Try.prog 68 (.ptr o off) 2 = some (.ptr o (off + 2))) := by simp [fieldAtD, Try.underlying68, dsz9]
theorem fd68_8 : (∀ {c : List D} {off : Nat}, fieldAtD Try.prog 68 (.eptr c off) 2 = some (.eptr c (off + 2))) := by simp [fieldAtD, Try.underlying68, dsz9]
theorem fd68_9 : (∀ {o off : Nat}, fieldAtD Try.prog 68 (.ptr o off) 3 = some (.ptr o (off + 3))) := by simp [fieldAtD, Try.underlying68, dsz43]
theorem fd68_10 : (∀ {c : List D} {off : Nat}, fieldAtD Try.prog 68 (.eptr c off) 3 = some (.eptr c (off + 3))) := by simp [fieldAtD, Try.underlying68, dsz43]
theorem fd68_11 : (∀ {ps : List (Nat × D)}, buildD Try.prog 68 ps = (fillD (fun i => ([(0, 1), (1, 1), (2, 1), (3, 1)] : List (Nat × Nat))[i]?) [.int .i64 0, .int .i64 0, .str ⟨#[]⟩, .nils] ps).map .agg) := bd_struct Try.underlying68 dpl68 dze68 (by simp [scalarV, Value.cells])
theorem fd74_0 : (∀ {x : D} {S : Mem}, loadD Try.prog 74 x S = (cellsAt x S).bind fun p => if p.2 + 5 ≤ p.1.length then some (.agg ((p.1.drop p.2).take 5)) else none) := ld_agg dag74 dsz74
theorem fd74_1 : (∀ {o off : Nat} {S : Mem} {x0 x1 x2 x3 x4 : D}, ([x0, x1, x2, x3, x4] : List D).all D.one = true → storeD Try.prog 74 (.ptr o off) (.agg [x0, x1, x2, x3, x4]) S = (objAt S o).bind fun cells => if off + 5 ≤ cells.length then some (S.set o (.obj (wr cells off [x0, x1, x2, x3, x4]))) else none) := fun h => st_cells dsz74 rfl rfl h
theorem fd74_2 : (∀ {ρ : DEnv} {S : Mem}, opD Try.prog ρ (.alloc 74) S = some (.ptr S.length 0, S ++ [.obj [.str ⟨#[]⟩, .int .i64 0, .int .i64 0, .str ⟨#[]⟩, .nils]])) := al_cells dze74 (by simp [scalarV, Value.cells])
theorem fd74_3 : (∀ {o off : Nat}, fieldAtD Try.prog 74 (.ptr o off) 0 = some (.ptr o (off + 0))) := by simp [fieldAtD, Try.underlying74, dsz9]
theorem fd74_4 : (∀ {c : List D} {off : Nat}, fieldAtD Try.prog 74 (.eptr c off) 0 = some (.eptr c (off + 0))) := by simp [fieldAtD, Try.underlying74, dsz9]
theorem fd74_5 : (∀ {o off : Nat}, fieldAtD Try.prog 74 (.ptr o off) 1 = some (.ptr o (off + 1))) := by simp [fieldAtD, Try.underlying74, dsz68]
theorem fd74_6 : (∀ {c : List D} {off : Nat}, fieldAtD Try.prog 74 (.eptr c off) 1 = some (.eptr c (off + 1))) := by simp [fieldAtD, Try.underlying74, dsz68]
theorem fd74_7 : (∀ {ps : List (Nat × D)}, buildD Try.prog 74 ps = (fillD (fun i => ([(0, 1), (1, 4)] : List (Nat × Nat))[i]?) [.str ⟨#[]⟩, .int .i64 0, .int .i64 0, .str ⟨#[]⟩, .nils] ps).map .agg) := bd_struct Try.underlying74 dpl74 dze74 (by simp [scalarV, Value.cells])
theorem fd76_0 : (Try.prog.underlying 76 = some (.slice 45)) := Try.underlying76
theorem fd76_1 : (∀ {x : D} {S : Mem}, loadD Try.prog 76 x S = (cellsAt x S).bind fun p => p.1[p.2]?) := ld_one dag76
theorem fd76_2 : (∀ {o off : Nat} {S : Mem} {v : D}, cellsD v = some [v] → D.one v = true → storeD Try.prog 76 (.ptr o off) v S = (objAt S o).bind fun cells => if off + 1 ≤ cells.length then some (S.set o (.obj (wr cells off [v]))) else none) := fun h1 h2 => st_cells dsz76 h1 rfl (by simp [h2])
theorem fd76_3 : (∀ {ρ : DEnv} {S : Mem}, opD Try.prog ρ (.alloc 76) S = some (.ptr S.length 0, S ++ [.obj [.nils]])) := al_cells dze76 (by simp [scalarV, Value.cells])
theorem fd76_4 : (∀ {own : Option Nat} {len : Nat} {cells : List D} {k : IntKind} {i : Int}, indexAtD Try.prog 76 (.sl own 1 len cells) (.int k i) = if 0 ≤ i ∧ i < len then some (.eptr cells (i.toNat * 1)) else none) := ix_sl Try.underlying76 dsz45
theorem fd76_5 : (∀ {own : Option Nat} {len : Nat} {cells : List D} {lo hi mx : Option D}, sliceD Try.prog 76 (.sl own 1 len cells) lo hi mx = (optNatD lo).bind fun l => (optNatD hi).bind fun h => (optNatD mx).bind fun m => if m.isSome = true ∧ h.isNone = true then none else cutD own 1 len cells (l.getD 0) (h.getD len) m) := cut_sl Try.underlying76 dsz45
theorem fd76_6 : (∀ {n : Nat} {ps : List (Nat × D)} {S : Mem}, buildSliceD Try.prog 76 n ps S = if n * 1 > 2 ^ 24 then none else (fillD (fun i => some (i * 1, 1)) (repD [.nils] n) ps).bind fun cells => if cells.all D.one = true then some (.sl (some S.length) 1 n cells, S ++ [.own]) else none) := bs_slice Try.underlying76 dsz45 dze45 (by simp [scalarV, Value.cells]) rfl
theorem fd76_7 : (∀ {S : Mem}, appendD Try.prog #[76, 76] .nils .nils S = some (.nils, S)) := by intros; exact ap_zero del76 rfl (by simp)
theorem fd76_8 : (∀ {S : Mem}, appendD Try.prog #[76, 76] .sl0 .nils S = some (.sl0, S)) := by intros; exact ap_zero del76 rfl (by simp)
theorem fd76_9 : (∀ {own : Option Nat} {len : Nat} {cells : List D} {S : Mem}, appendD Try.prog #[76, 76] (.sl own 1 len cells) .nils S = some ((.sl own 1 len cells), S)) := by intros; exact ap_zero del76 rfl (by simp)
theorem fd76_10 : (∀ {S : Mem}, appendD Try.prog #[76, 76] .nils .sl0 S = some (.nils, S)) := by intros; exact ap_zero del76 rfl (by simp)
theorem fd76_11 : (∀ {S : Mem}, appendD Try.prog #[76, 76] .sl0 .sl0 S = some (.sl0, S)) := by intros; exact ap_zero del76 rfl (by simp)
theorem fd76_12 : (∀ {own : Option Nat} {len : Nat} {cells : List D} {S : Mem}, appendD Try.prog #[76, 76] (.sl own 1 len cells) .sl0 S = some ((.sl own 1 len cells), S)) := by intros; exact ap_zero del76 rfl (by simp)
theorem fd76_13 : (∀ {S : Mem}, appendD Try.prog #[76, 76] .nils .slx S = some (.nils, S)) := by intros; exact ap_zero del76 rfl (by simp)
theorem fd76_14 : (∀ {S : Mem}, appendD Try.prog #[76, 76] .sl0 .slx S = some (.sl0, S)) := by intros; exact ap_zero del76 rfl (by simp)
theorem fd76_15 : (∀ {own : Option Nat} {len : Nat} {cells : List D} {S : Mem}, appendD Try.prog #[76, 76] (.sl own 1 len cells) .slx S = some ((.sl own 1 len cells), S)) := by intros; exact ap_zero del76 rfl (by simp)
theorem fd76_16 : (∀ {own : Option Nat} {m : Nat} {new : List D} {S : Mem}, appendD Try.prog #[76, 76] .nils (.sl own 1 m new) S = if m = 0 then some (.nils, S) else if fitsD 24 m new then some (.sl (some S.length) 1 m new, S ++ [.own]) else none) := ap_nils del76
theorem fd76_17 : (∀ {own : Option Nat} {m : Nat} {new : List D} {S : Mem}, appendD Try.prog #[76, 76] .sl0 (.sl own 1 m new) S = if m = 0 then some (.sl0, S) else if fitsD 24 m new then some (.sl (some S.length) 1 m new, S ++ [.own]) else none) := ap_sl0 del76
theorem fd76_18 : (∀ {own : Option Nat} {id m len : Nat} {cells new : List D} {S : Mem}, appendD Try.prog #[76, 76] (.sl (some id) 1 len cells) (.sl own 1 m new) S = if m = 0 then some (.sl (some id) 1 len cells, S) else if fitsD 24 (len + m) new then (match S[id]? with | some .own => some (.sl (some S.length) 1 (len + m) (cells ++ new), S.set id .dead ++ [.own]) | _ => none) else none) := ap_own del76
theorem fd76_19 : (∀ {own : Option Nat} {len : Nat} {cells : List D} {S : Mem}, builtinD Try.prog .len #[76] [.sl own 1 len cells] S = some (.int .i64 len, S)) := len_sl rfl Try.underlying76
theorem fd76_20 : (∀ {S : Mem}, builtinD Try.prog .len #[76] [.nils] S = some (.int .i64 0, S)) := len_nil rfl Try.underlying76
theorem fd76_21 : (∀ {x y : Operand}, binD Try.prog .eql 76 x y .nils .nils = some (.bool true) ∧ binD Try.prog .eql 76 x y .slx .nils = some (.bool false) ∧ (∀ {own sz n cells}, binD Try.prog .eql 76 x y (.sl own sz (n + 1) cells) .nils = some (.bool false)) ∧ binD Try.prog .neq 76 x y .nils .nils = some (.bool false) ∧ binD Try.prog .neq 76 x y .slx .nils = some (.bool true) ∧ (∀ {own sz n cells}, binD Try.prog .neq 76 x y (.sl own sz (n + 1) cells) .nils = some (.bool true))) := eq_nils Try.underlying76
theorem fd76_22 : (∀ {S : Mem}, builtinD Try.prog .len #[76] [.slx] S = some (.int .i64 0, S)) := len_slx rfl Try.underlying76
theorem fd76_23 : (∀ {S : Mem}, builtinD Try.prog .len #[76] [.sl0] S = some (.int .i64 0, S)) := len_nil0 rfl Try.underlying76
theorem fd96_0 : (Try.prog.underlying 96 = some (.int .u64)) := Try.underlying96
theorem fd96_1 : (∀ {x : D} {S : Mem}, loadD Try.prog 96 x S = (cellsAt x S).bind fun p => p.1[p.2]?) := ld_one dag96
theorem fd96_2 : (∀ {o off : Nat} {S : Mem} {v : D}, cellsD v = some [v] → D.one v = true → storeD Try.prog 96 (.ptr o off) v S = (objAt S o).bind fun cells => if off + 1 ≤ cells.length then some (S.set o (.obj (wr cells off [v]))) else none) := fun h1 h2 => st_cells dsz96 h1 rfl (by simp [h2])
theorem fd96_3 : (∀ {ρ : DEnv} {S : Mem}, opD Try.prog ρ (.alloc 96) S = some (.ptr S.length 0, S ++ [.obj [.int .u64 0]])) := al_cells dze96 (by simp [scalarV, Value.cells])
theorem fd96_4 : (∀ {S : Mem} {k : IntKind} {n : Int}, convD Try.prog 2 96 (.int k n) S = some (.int .u64 (IntKind.wrap .u64 n), S)) := conv_int Try.underlying2 Try.underlying96
theorem fd96_5 : (∀ {S : Mem} {k : IntKind} {n : Int}, convD Try.prog 3 96 (.int k n) S = some (.int .u64 (IntKind.wrap .u64 n), S)) := conv_int Try.underlying3 Try.underlying96
theorem fd96_6 : (∀ {S : Mem} {k : IntKind} {n : Int}, convD Try.prog 5 96 (.int k n) S = some (.int .u64 (IntKind.wrap .u64 n), S)) := conv_int Try.underlying5 Try.underlying96
theorem fd96_7 : (∀ {S : Mem} {k : IntKind} {n : Int}, convD Try.prog 44 96 (.int k n) S = some (.int .u64 (IntKind.wrap .u64 n), S)) := conv_int Try.underlying44 Try.underlying96
theorem fd96_8 : (∀ {S : Mem} {k : IntKind} {n : Int}, convD Try.prog 47 96 (.int k n) S = some (.int .u64 (IntKind.wrap .u64 n), S)) := conv_int Try.underlying47 Try.underlying96
theorem fd96_9 : (∀ {S : Mem} {k : IntKind} {n : Int}, convD Try.prog 96 96 (.int k n) S = some (.int .u64 (IntKind.wrap .u64 n), S)) := conv_int Try.underlying96 Try.underlying96
end Go.Proofs.DmT
