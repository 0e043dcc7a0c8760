/- Facts on the types of the program: sizes, fields, places, zeros. -/
import Derived.Test.YtmbgelijgmmpbaaGreatDoorProg
import Derived.Test.YtmbgelijgmmpbaaGreatDoorDmOx
import Derived.KernelRfl
set_option linter.unusedSimpArgs false
set_option linter.unusedVariables false
namespace Go.Proofs.DvF
open Go Go.AM Go.DM
set_option maxRecDepth 100000
theorem dag2:isAggA Tryz.prog 2=some false:=congrArg (Option.map _) Tryz.underlying2
theorem dag3:isAggA Tryz.prog 3=some false:=congrArg (Option.map _) Tryz.underlying3
theorem dag4:isAggA Tryz.prog 4=some false:=congrArg (Option.map _) Tryz.underlying4
theorem dag5:isAggA Tryz.prog 5=some false:=congrArg (Option.map _) Tryz.underlying5
theorem dag9:isAggA Tryz.prog 9=some false:=congrArg (Option.map _) Tryz.underlying9
theorem dag22:isAggA Tryz.prog 22=some false:=congrArg (Option.map _) Tryz.underlying22
theorem dag31:isAggA Tryz.prog 31=some false:=congrArg (Option.map _) Tryz.underlying31
theorem dag33:isAggA Tryz.prog 33=some false:=congrArg (Option.map _) Tryz.underlying33
theorem dag51:isAggA Tryz.prog 51=some false:=congrArg (Option.map _) Tryz.underlying51
theorem dag53:isAggA Tryz.prog 53=some true:=congrArg (Option.map _) Tryz.underlying53
theorem dag59:isAggA Tryz.prog 59=some true:=congrArg (Option.map _) Tryz.underlying59
theorem dag61:isAggA Tryz.prog 61=some true:=congrArg (Option.map _) Tryz.underlying61
theorem dag63:isAggA Tryz.prog 63=some true:=congrArg (Option.map _) Tryz.underlying63
theorem dag66:isAggA Tryz.prog 66=some true:=congrArg (Option.map _) Tryz.underlying66
theorem dag68:isAggA Tryz.prog 68=some true:=congrArg (Option.map _) Tryz.underlying68
theorem dag70:isAggA Tryz.prog 70=some false:=congrArg (Option.map _) Tryz.underlying70
theorem dag85:isAggA Tryz.prog 85=some true:=congrArg (Option.map _) Tryz.underlying85
theorem dag87:isAggA Tryz.prog 87=some true:=congrArg (Option.map _) Tryz.underlying87
theorem dag158:isAggA Tryz.prog 158=some true:=congrArg (Option.map _) Tryz.underlying158
theorem dag159:isAggA Tryz.prog 159=some false:=congrArg (Option.map _) Tryz.underlying159
theorem dag161:isAggA Tryz.prog 161=some true:=congrArg (Option.map _) Tryz.underlying161
theorem dag218:isAggA Tryz.prog 218=some false:=congrArg (Option.map _) Tryz.underlying218
theorem dtys:(tyA Tryz.prog 2,tyA Tryz.prog 3,tyA Tryz.prog 4,tyA Tryz.prog 5,tyA Tryz.prog 9,tyA Tryz.prog 22,tyA Tryz.prog 63,tyA Tryz.prog 25,tyA Tryz.prog 82,tyA Tryz.prog 28,tyA Tryz.prog 68,tyA Tryz.prog 31,tyA Tryz.prog 87,tyA Tryz.prog 33,tyA Tryz.prog 59,tyA Tryz.prog 35,tyA Tryz.prog 105,tyA Tryz.prog 48,tyA Tryz.prog 51,tyA Tryz.prog 53,tyA Tryz.prog 61,tyA Tryz.prog 66,tyA Tryz.prog 70,tyA Tryz.prog 75,tyA Tryz.prog 77,tyA Tryz.prog 78,tyA Tryz.prog 145,tyA Tryz.prog 80,tyA Tryz.prog 85,tyA Tryz.prog 90,tyA Tryz.prog 97,tyA Tryz.prog 99,tyA Tryz.prog 100,tyA Tryz.prog 165,tyA Tryz.prog 102,tyA Tryz.prog 107,tyA Tryz.prog 111,tyA Tryz.prog 121,tyA Tryz.prog 133,tyA Tryz.prog 140,tyA Tryz.prog 138,tyA Tryz.prog 158,tyA Tryz.prog 159,tyA Tryz.prog 161,tyA Tryz.prog 169,tyA Tryz.prog 199,tyA Tryz.prog 202,tyA Tryz.prog 217,tyA Tryz.prog 218,tyA Tryz.prog 220,tyA Tryz.prog 228,tyA Tryz.prog 245,tyA Tryz.prog 247,())=((some 1,some 8,some (.int .i64 0),none),(some 1,some 8,some (.int .i64 0),none),(some 1,some 1,some (.bool false),none),(some 1,some 1,some (.int .u8 0),none),(some 1,some 16,some (.string ⟨#[]⟩),none),(some 1,some 24,some (.slice none 0 0),none),(some 6,some 80,some (.agg #[.string ⟨#[]⟩,.int .i64 0,.int .i64 0,.int .i64 0,.string ⟨#[]⟩,.slice none 0 0]),some [(0,1),(1,4),(5,1)]),(some 1,some 24,some (.slice none 0 0),none),(some 12,some 192,some (.agg #[.string ⟨#[]⟩,.string ⟨#[]⟩,.int .i64 0,.string ⟨#[]⟩,.string ⟨#[]⟩,.int .i64 0,.slice none 0 0,.string ⟨#[]⟩,.string ⟨#[]⟩,.int .i64 0,.slice none 0 0,.slice none 0 0]),some [(0,1),(1,11)]),(some 1,some 24,some (.slice none 0 0),none),(some 6,some 80,some (.agg #[.string ⟨#[]⟩,.int .i64 0,.int .i64 0,.int .i64 0,.string ⟨#[]⟩,.slice none 0 0]),some [(0,1),(1,4),(5,1)]),(some 1,some 24,some (.slice none 0 0),none),(some 5,some 72,some (.agg #[.string ⟨#[]⟩,.int .i64 0,.int .i64 0,.string ⟨#[]⟩,.slice none 0 0]),some [(0,1),(1,4)]),(some 1,some 24,some (.slice none 0 0),none),(some 5,some 72,some (.agg #[.string ⟨#[]⟩,.int .i64 0,.int .i64 0,.string ⟨#[]⟩,.slice none 0 0]),some [(0,1),(1,4)]),(some 1,some 24,some (.slice none 0 0),none),(some 12,some 192,some (.agg #[.string ⟨#[]⟩,.string ⟨#[]⟩,.int .i64 0,.string ⟨#[]⟩,.string ⟨#[]⟩,.int .i64 0,.slice none 0 0,.string ⟨#[]⟩,.string ⟨#[]⟩,.int .i64 0,.slice none 0 0,.slice none 0 0]),some [(0,1),(1,11)]),(some 3,some 40,some (.agg #[.string ⟨#[]⟩,.string ⟨#[]⟩,.int .i64 0]),some [(0,1),(1,1),(2,1)]),(some 1,some 24,some (.slice none 0 0),none),(some 4,some 56,some (.agg #[.int .i64 0,.int .i64 0,.string ⟨#[]⟩,.slice none 0 0]),some [(0,1),(1,1),(2,1),(3,1)]),(some 4,some 40,some (.agg #[.int .i64 0,.int .i64 0,.int .i64 0,.string ⟨#[]⟩]),some [(0,1),(1,1),(2,1),(3,1)]),(some 4,some 40,some (.agg #[.int .i64 0,.int .i64 0,.int .i64 0,.string ⟨#[]⟩]),some [(0,1),(1,1),(2,1),(3,1)]),(some 1,some 24,some (.slice none 0 0),none),(some 1,some 24,some (.slice none 0 0),none),(some 4,some 64,some (.agg #[.string ⟨#[]⟩,.string ⟨#[]⟩,.int .i64 0,.slice none 0 0]),some [(0,1),(1,1),(2,1),(3,1)]),(some 1,some 24,some (.slice none 0 0),none),(some 9,some 144,some (.agg #[.string ⟨#[]⟩,.string ⟨#[]⟩,.string ⟨#[]⟩,.int .i64 0,.slice none 0 0,.string ⟨#[]⟩,.string ⟨#[]⟩,.int .i64 0,.slice none 0 0]),some [(0,1),(1,4),(5,4)]),(some 11,some 176,some (.agg #[.string ⟨#[]⟩,.int .i64 0,.string ⟨#[]⟩,.string ⟨#[]⟩,.int .i64 0,.slice none 0 0,.string ⟨#[]⟩,.string ⟨#[]⟩,.int .i64 0,.slice none 0 0,.slice none 0 0]),some [(0,1),(1,1),(2,4),(6,4),(10,1)]),(some 4,some 56,some (.agg #[.int .i64 0,.int .i64 0,.string ⟨#[]⟩,.slice none 0 0]),some [(0,1),(1,1),(2,1),(3,1)]),(some 1,some 24,some (.slice none 0 0),none),(some 1,some 24,some (.slice none 0 0),none),(some 4,some 64,some (.agg #[.string ⟨#[]⟩,.string ⟨#[]⟩,.int .i64 0,.slice none 0 0]),some [(0,1),(1,1),(2,1),(3,1)]),(some 1,some 24,some (.slice none 0 0),none),(some 9,some 144,some (.agg #[.string ⟨#[]⟩,.string ⟨#[]⟩,.string ⟨#[]⟩,.int .i64 0,.slice none 0 0,.string ⟨#[]⟩,.string ⟨#[]⟩,.int .i64 0,.slice none 0 0]),some [(0,1),(1,4),(5,4)]),(some 11,some 176,some (.agg #[.string ⟨#[]⟩,.int .i64 0,.string ⟨#[]⟩,.string ⟨#[]⟩,.int .i64 0,.slice none 0 0,.string ⟨#[]⟩,.string ⟨#[]⟩,.int .i64 0,.slice none 0 0,.slice none 0 0]),some [(0,1),(1,1),(2,4),(6,4),(10,1)]),(some 1,some 24,some (.slice none 0 0),none),(some 3,some 40,some (.agg #[.string ⟨#[]⟩,.string ⟨#[]⟩,.int .i64 0]),some [(0,1),(1,1),(2,1)]),(some 1,some 24,some (.slice none 0 0),none),(some 1,some 24,some (.slice none 0 0),none),(some 4,some 40,some (.agg #[.int .i64 0,.string ⟨#[]⟩,.int .i64 0,.int .i64 0]),some [(0,1),(1,1),(2,1),(3,1)]),(some 5,some 56,some (.agg #[.slice none 0 0,.int .i64 0,.int .i64 0,.int .i64 0,.int .i64 0]),some [(0,1),(1,1),(2,1),(3,1),(4,1)]),(some 5,some 72,some (.agg #[.string ⟨#[]⟩,.int .i64 0,.int .i64 0,.string ⟨#[]⟩,.slice none 0 0]),some [(0,1),(1,4)]),(some 1,some 24,some (.slice none 0 0),none),(some 1,some 24,some (.agg #[.slice none 0 0]),some [(0,1)]),(some 1,some 24,some (.slice none 0 0),none),(some 1,some 24,some (.slice none 0 0),none),(some 2,some 16,some (.agg #[.int .i64 0,.int .i64 0]),some [(0,1),(1,1)]),(some 1,some 24,some (.slice none 0 0),none),(some 1,some 8,some (.int .u64 0),none),(some 1,some 8,some (.int .u64 0),none),(some 1,some 8,some (.int .i64 0),none),(some 2,some 16,some (.agg #[.int .i64 0,.bool false]),some [(0,1),(1,1)]),(some 1,some 24,some (.slice none 0 0),none),()):=by kernel_rfl
theorem dsz2:sizeA Tryz.prog 2=some 1:=congrArg (fun x=>x.1.1) dtys
theorem dby2:(Tryz.prog.info? 2).map (·.bytes)=some 8:=congrArg (fun x=>x.1.2.1) dtys
theorem dze2:zeroA Tryz.prog 2=some (.int .i64 0):=congrArg (fun x=>x.1.2.2.1) dtys
theorem dsz3:sizeA Tryz.prog 3=some 1:=congrArg (fun x=>x.2.1.1) dtys
theorem dze3:zeroA Tryz.prog 3=some (.int .i64 0):=congrArg (fun x=>x.2.1.2.2.1) dtys
theorem dsz4:sizeA Tryz.prog 4=some 1:=congrArg (fun x=>x.2.2.1.1) dtys
theorem dze4:zeroA Tryz.prog 4=some (.bool false):=congrArg (fun x=>x.2.2.1.2.2.1) dtys
theorem dsz5:sizeA Tryz.prog 5=some 1:=congrArg (fun x=>x.2.2.2.1.1) dtys
theorem dze5:zeroA Tryz.prog 5=some (.int .u8 0):=congrArg (fun x=>x.2.2.2.1.2.2.1) dtys
theorem dsz9:sizeA Tryz.prog 9=some 1:=congrArg (fun x=>x.2.2.2.2.1.1) dtys
theorem dby9:(Tryz.prog.info? 9).map (·.bytes)=some 16:=congrArg (fun x=>x.2.2.2.2.1.2.1) dtys
theorem dze9:zeroA Tryz.prog 9=some (.string ⟨#[]⟩):=congrArg (fun x=>x.2.2.2.2.1.2.2.1) dtys
theorem dsz22:sizeA Tryz.prog 22=some 1:=congrArg (fun x=>x.2.2.2.2.2.1.1) dtys
theorem dze22:zeroA Tryz.prog 22=some (.slice none 0 0):=congrArg (fun x=>x.2.2.2.2.2.1.2.2.1) dtys
theorem dsz63:sizeA Tryz.prog 63=some 6:=congrArg (fun x=>x.2.2.2.2.2.2.1.1) dtys
theorem dby63:(Tryz.prog.info? 63).map (·.bytes)=some 80:=congrArg (fun x=>x.2.2.2.2.2.2.1.2.1) dtys
theorem dze63:zeroA Tryz.prog 63=some (.agg #[.string ⟨#[]⟩,.int .i64 0,.int .i64 0,.int .i64 0,.string ⟨#[]⟩,.slice none 0 0]):=congrArg (fun x=>x.2.2.2.2.2.2.1.2.2.1) dtys
theorem dpl63:placesA Tryz.prog 63=some [(0,1),(1,4),(5,1)]:=congrArg (fun x=>x.2.2.2.2.2.2.1.2.2.2) dtys
theorem dsz68:sizeA Tryz.prog 68=some 6:=congrArg (fun x=>x.2.2.2.2.2.2.2.2.2.2.1.1) dtys
theorem dze68:zeroA Tryz.prog 68=some (.agg #[.string ⟨#[]⟩,.int .i64 0,.int .i64 0,.int .i64 0,.string ⟨#[]⟩,.slice none 0 0]):=congrArg (fun x=>x.2.2.2.2.2.2.2.2.2.2.1.2.2.1) dtys
theorem dpl68:placesA Tryz.prog 68=some [(0,1),(1,4),(5,1)]:=congrArg (fun x=>x.2.2.2.2.2.2.2.2.2.2.1.2.2.2) dtys
theorem dsz31:sizeA Tryz.prog 31=some 1:=congrArg (fun x=>x.2.2.2.2.2.2.2.2.2.2.2.1.1) dtys
theorem dze31:zeroA Tryz.prog 31=some (.slice none 0 0):=congrArg (fun x=>x.2.2.2.2.2.2.2.2.2.2.2.1.2.2.1) dtys
theorem dsz87:sizeA Tryz.prog 87=some 5:=congrArg (fun x=>x.2.2.2.2.2.2.2.2.2.2.2.2.1.1) dtys
theorem dby87:(Tryz.prog.info? 87).map (·.bytes)=some 72:=congrArg (fun x=>x.2.2.2.2.2.2.2.2.2.2.2.2.1.2.1) dtys
theorem dze87:zeroA Tryz.prog 87=some (.agg #[.string ⟨#[]⟩,.int .i64 0,.int .i64 0,.string ⟨#[]⟩,.slice none 0 0]):=congrArg (fun x=>x.2.2.2.2.2.2.2.2.2.2.2.2.1.2.2.1) dtys
theorem dpl87:placesA Tryz.prog 87=some [(0,1),(1,4)]:=congrArg (fun x=>x.2.2.2.2.2.2.2.2.2.2.2.2.1.2.2.2) dtys
theorem dsz33:sizeA Tryz.prog 33=some 1:=congrArg (fun x=>x.2.2.2.2.2.2.2.2.2.2.2.2.2.1.1) dtys
theorem dze33:zeroA Tryz.prog 33=some (.slice none 0 0):=congrArg (fun x=>x.2.2.2.2.2.2.2.2.2.2.2.2.2.1.2.2.1) dtys
theorem dsz59:sizeA Tryz.prog 59=some 5:=congrArg (fun x=>x.2.2.2.2.2.2.2.2.2.2.2.2.2.2.1.1) dtys
theorem dby59:(Tryz.prog.info? 59).map (·.bytes)=some 72:=congrArg (fun x=>x.2.2.2.2.2.2.2.2.2.2.2.2.2.2.1.2.1) dtys
theorem dze59:zeroA Tryz.prog 59=some (.agg #[.string ⟨#[]⟩,.int .i64 0,.int .i64 0,.string ⟨#[]⟩,.slice none 0 0]):=congrArg (fun x=>x.2.2.2.2.2.2.2.2.2.2.2.2.2.2.1.2.2.1) dtys
theorem dpl59:placesA Tryz.prog 59=some [(0,1),(1,4)]:=congrArg (fun x=>x.2.2.2.2.2.2.2.2.2.2.2.2.2.2.1.2.2.2) dtys
theorem dsz51:sizeA Tryz.prog 51=some 1:=congrArg (fun x=>x.2.2.2.2.2.2.2.2.2.2.2.2.2.2.2.2.2.2.1.1) dtys
theorem dze51:zeroA Tryz.prog 51=some (.slice none 0 0):=congrArg (fun x=>x.2.2.2.2.2.2.2.2.2.2.2.2.2.2.2.2.2.2.1.2.2.1) dtys
theorem dsz53:sizeA Tryz.prog 53=some 4:=congrArg (fun x=>x.2.2.2.2.2.2.2.2.2.2.2.2.2.2.2.2.2.2.2.1.1) dtys
theorem dze53:zeroA Tryz.prog 53=some (.agg #[.int .i64 0,.int .i64 0,.string ⟨#[]⟩,.slice none 0 0]):=congrArg (fun x=>x.2.2.2.2.2.2.2.2.2.2.2.2.2.2.2.2.2.2.2.1.2.2.1) dtys
theorem dpl53:placesA Tryz.prog 53=some [(0,1),(1,1),(2,1),(3,1)]:=congrArg (fun x=>x.2.2.2.2.2.2.2.2.2.2.2.2.2.2.2.2.2.2.2.1.2.2.2) dtys
theorem dsz61:sizeA Tryz.prog 61=some 4:=congrArg (fun x=>x.2.2.2.2.2.2.2.2.2.2.2.2.2.2.2.2.2.2.2.2.1.1) dtys
theorem dze61:zeroA Tryz.prog 61=some (.agg #[.int .i64 0,.int .i64 0,.int .i64 0,.string ⟨#[]⟩]):=congrArg (fun x=>x.2.2.2.2.2.2.2.2.2.2.2.2.2.2.2.2.2.2.2.2.1.2.2.1) dtys
theorem dpl61:placesA Tryz.prog 61=some [(0,1),(1,1),(2,1),(3,1)]:=congrArg (fun x=>x.2.2.2.2.2.2.2.2.2.2.2.2.2.2.2.2.2.2.2.2.1.2.2.2) dtys
theorem dsz66:sizeA Tryz.prog 66=some 4:=congrArg (fun x=>x.2.2.2.2.2.2.2.2.2.2.2.2.2.2.2.2.2.2.2.2.2.1.1) dtys
theorem dze66:zeroA Tryz.prog 66=some (.agg #[.int .i64 0,.int .i64 0,.int .i64 0,.string ⟨#[]⟩]):=congrArg (fun x=>x.2.2.2.2.2.2.2.2.2.2.2.2.2.2.2.2.2.2.2.2.2.1.2.2.1) dtys
theorem dpl66:placesA Tryz.prog 66=some [(0,1),(1,1),(2,1),(3,1)]:=congrArg (fun x=>x.2.2.2.2.2.2.2.2.2.2.2.2.2.2.2.2.2.2.2.2.2.1.2.2.2) dtys
theorem dsz70:sizeA Tryz.prog 70=some 1:=congrArg (fun x=>x.2.2.2.2.2.2.2.2.2.2.2.2.2.2.2.2.2.2.2.2.2.2.1.1) dtys
theorem dze70:zeroA Tryz.prog 70=some (.slice none 0 0):=congrArg (fun x=>x.2.2.2.2.2.2.2.2.2.2.2.2.2.2.2.2.2.2.2.2.2.2.1.2.2.1) dtys
theorem dsz85:sizeA Tryz.prog 85=some 4:=congrArg (fun x=>x.2.2.2.2.2.2.2.2.2.2.2.2.2.2.2.2.2.2.2.2.2.2.2.2.2.2.2.2.1.1) dtys
theorem dze85:zeroA Tryz.prog 85=some (.agg #[.int .i64 0,.int .i64 0,.string ⟨#[]⟩,.slice none 0 0]):=congrArg (fun x=>x.2.2.2.2.2.2.2.2.2.2.2.2.2.2.2.2.2.2.2.2.2.2.2.2.2.2.2.2.1.2.2.1) dtys
theorem dpl85:placesA Tryz.prog 85=some [(0,1),(1,1),(2,1),(3,1)]:=congrArg (fun x=>x.2.2.2.2.2.2.2.2.2.2.2.2.2.2.2.2.2.2.2.2.2.2.2.2.2.2.2.2.1.2.2.2) dtys
theorem dsz158:sizeA Tryz.prog 158=some 5:=congrArg (fun x=>x.2.2.2.2.2.2.2.2.2.2.2.2.2.2.2.2.2.2.2.2.2.2.2.2.2.2.2.2.2.2.2.2.2.2.2.2.2.2.2.2.2.1.1) dtys
theorem dby158:(Tryz.prog.info? 158).map (·.bytes)=some 72:=congrArg (fun x=>x.2.2.2.2.2.2.2.2.2.2.2.2.2.2.2.2.2.2.2.2.2.2.2.2.2.2.2.2.2.2.2.2.2.2.2.2.2.2.2.2.2.1.2.1) dtys
theorem dze158:zeroA Tryz.prog 158=some (.agg #[.string ⟨#[]⟩,.int .i64 0,.int .i64 0,.string ⟨#[]⟩,.slice none 0 0]):=congrArg (fun x=>x.2.2.2.2.2.2.2.2.2.2.2.2.2.2.2.2.2.2.2.2.2.2.2.2.2.2.2.2.2.2.2.2.2.2.2.2.2.2.2.2.2.1.2.2.1) dtys
theorem dpl158:placesA Tryz.prog 158=some [(0,1),(1,4)]:=congrArg (fun x=>x.2.2.2.2.2.2.2.2.2.2.2.2.2.2.2.2.2.2.2.2.2.2.2.2.2.2.2.2.2.2.2.2.2.2.2.2.2.2.2.2.2.1.2.2.2) dtys
theorem dsz159:sizeA Tryz.prog 159=some 1:=congrArg (fun x=>x.2.2.2.2.2.2.2.2.2.2.2.2.2.2.2.2.2.2.2.2.2.2.2.2.2.2.2.2.2.2.2.2.2.2.2.2.2.2.2.2.2.2.1.1) dtys
theorem dze159:zeroA Tryz.prog 159=some (.slice none 0 0):=congrArg (fun x=>x.2.2.2.2.2.2.2.2.2.2.2.2.2.2.2.2.2.2.2.2.2.2.2.2.2.2.2.2.2.2.2.2.2.2.2.2.2.2.2.2.2.2.1.2.2.1) dtys
theorem dsz161:sizeA Tryz.prog 161=some 1:=congrArg (fun x=>x.2.2.2.2.2.2.2.2.2.2.2.2.2.2.2.2.2.2.2.2.2.2.2.2.2.2.2.2.2.2.2.2.2.2.2.2.2.2.2.2.2.2.2.1.1) dtys
theorem dze161:zeroA Tryz.prog 161=some (.agg #[.slice none 0 0]):=congrArg (fun x=>x.2.2.2.2.2.2.2.2.2.2.2.2.2.2.2.2.2.2.2.2.2.2.2.2.2.2.2.2.2.2.2.2.2.2.2.2.2.2.2.2.2.2.2.1.2.2.1) dtys
theorem dpl161:placesA Tryz.prog 161=some [(0,1)]:=congrArg (fun x=>x.2.2.2.2.2.2.2.2.2.2.2.2.2.2.2.2.2.2.2.2.2.2.2.2.2.2.2.2.2.2.2.2.2.2.2.2.2.2.2.2.2.2.2.1.2.2.2) dtys
theorem dsz218:sizeA Tryz.prog 218=some 1:=congrArg (fun x=>x.2.2.2.2.2.2.2.2.2.2.2.2.2.2.2.2.2.2.2.2.2.2.2.2.2.2.2.2.2.2.2.2.2.2.2.2.2.2.2.2.2.2.2.2.2.2.2.2.1.1) dtys
theorem dze218:zeroA Tryz.prog 218=some (.int .u64 0):=congrArg (fun x=>x.2.2.2.2.2.2.2.2.2.2.2.2.2.2.2.2.2.2.2.2.2.2.2.2.2.2.2.2.2.2.2.2.2.2.2.2.2.2.2.2.2.2.2.2.2.2.2.2.1.2.2.1) dtys
theorem del22:ElemT Tryz.prog 22 63 6 80:=elemT_at Tryz.underlying22 dsz63 dby63 dze63 rfl
theorem del31:ElemT Tryz.prog 31 87 5 72:=elemT_at Tryz.underlying31 dsz87 dby87 dze87 rfl
theorem del33:ElemT Tryz.prog 33 59 5 72:=elemT_at Tryz.underlying33 dsz59 dby59 dze59 rfl
theorem del51:ElemT Tryz.prog 51 2 1 8:=elemT_at Tryz.underlying51 dsz2 dby2 dze2 rfl
theorem del70:ElemT Tryz.prog 70 9 1 16:=elemT_at Tryz.underlying70 dsz9 dby9 dze9 rfl
theorem del159:ElemT Tryz.prog 159 158 5 72:=elemT_at Tryz.underlying159 dsz158 dby158 dze158 rfl
theorem dmx:Tryz.prog.follows .mixedOrders=true:=by kernel_rfl
theorem fb2:FbI Tryz.prog 2 .i64∧FbC Tryz.prog 2 2 .i64∧FbC Tryz.prog 3 2 .i64∧FbC Tryz.prog 5 2 .i64∧FbC Tryz.prog 218 2 .i64∧FbC Tryz.prog 220 2 .i64∧FbC Tryz.prog 228 2 .i64:=⟨fbI Tryz.underlying2 dag2 dsz2 dze2,conv_int Tryz.underlying2 Tryz.underlying2,conv_int Tryz.underlying3 Tryz.underlying2,conv_int Tryz.underlying5 Tryz.underlying2,conv_int Tryz.underlying218 Tryz.underlying2,conv_int Tryz.underlying220 Tryz.underlying2,conv_int Tryz.underlying228 Tryz.underlying2⟩
theorem fb3:FbI Tryz.prog 3 .i64∧FbC Tryz.prog 2 3 .i64∧FbC Tryz.prog 3 3 .i64∧FbC Tryz.prog 5 3 .i64∧FbC Tryz.prog 218 3 .i64∧FbC Tryz.prog 220 3 .i64∧FbC Tryz.prog 228 3 .i64:=⟨fbI Tryz.underlying3 dag3 dsz3 dze3,conv_int Tryz.underlying2 Tryz.underlying3,conv_int Tryz.underlying3 Tryz.underlying3,conv_int Tryz.underlying5 Tryz.underlying3,conv_int Tryz.underlying218 Tryz.underlying3,conv_int Tryz.underlying220 Tryz.underlying3,conv_int Tryz.underlying228 Tryz.underlying3⟩
theorem fb4:FbB Tryz.prog 4:=fbB Tryz.underlying4 dag4 dsz4 dze4
theorem fb5:FbI Tryz.prog 5 .u8∧FbC Tryz.prog 2 5 .u8∧FbC Tryz.prog 3 5 .u8∧FbC Tryz.prog 5 5 .u8∧FbC Tryz.prog 218 5 .u8∧FbC Tryz.prog 220 5 .u8∧FbC Tryz.prog 228 5 .u8:=⟨fbI Tryz.underlying5 dag5 dsz5 dze5,conv_int Tryz.underlying2 Tryz.underlying5,conv_int Tryz.underlying3 Tryz.underlying5,conv_int Tryz.underlying5 Tryz.underlying5,conv_int Tryz.underlying218 Tryz.underlying5,conv_int Tryz.underlying220 Tryz.underlying5,conv_int Tryz.underlying228 Tryz.underlying5⟩
theorem fb9:FbT Tryz.prog 9∧FbCT Tryz.prog 9 9:=⟨fbT Tryz.underlying9 dag9 dsz9 dze9,conv_str Tryz.underlying9 Tryz.underlying9⟩
theorem fb22:FbS Tryz.prog 22 63 6∧FbE Tryz.prog 22 6 80 [.str ⟨#[]⟩,.int .i64 0,.int .i64 0,.int .i64 0,.str ⟨#[]⟩,.nils]:=⟨fbS Tryz.underlying22 dag22 dsz22 dze22 dsz63,fbE del22 Tryz.underlying22 dsz63 dze63 (by simp [scalarV,Value.cells]) rfl rfl⟩
theorem fb31:FbS Tryz.prog 31 87 5∧FbE Tryz.prog 31 5 72 [.str ⟨#[]⟩,.int .i64 0,.int .i64 0,.str ⟨#[]⟩,.nils]:=⟨fbS Tryz.underlying31 dag31 dsz31 dze31 dsz87,fbE del31 Tryz.underlying31 dsz87 dze87 (by simp [scalarV,Value.cells]) rfl rfl⟩
theorem fb33:FbS Tryz.prog 33 59 5∧FbE Tryz.prog 33 5 72 [.str ⟨#[]⟩,.int .i64 0,.int .i64 0,.str ⟨#[]⟩,.nils]:=⟨fbS Tryz.underlying33 dag33 dsz33 dze33 dsz59,fbE del33 Tryz.underlying33 dsz59 dze59 (by simp [scalarV,Value.cells]) rfl rfl⟩
theorem fb51:FbS Tryz.prog 51 2 1∧FbE Tryz.prog 51 1 8 [.int .i64 0]:=⟨fbS Tryz.underlying51 dag51 dsz51 dze51 dsz2,fbE del51 Tryz.underlying51 dsz2 dze2 (by simp [scalarV,Value.cells]) rfl rfl⟩
theorem fb53:FbL Tryz.prog 53 4∧FbSt4 Tryz.prog 53∧FbA Tryz.prog 53 [.int .i64 0,.int .i64 0,.str ⟨#[]⟩,.nils]∧FbF Tryz.prog 53 0 0∧FbF Tryz.prog 53 1 1∧FbF Tryz.prog 53 2 2∧FbF Tryz.prog 53 3 3∧FbM Tryz.prog 53 [(0,1),(1,1),(2,1),(3,1)] [.int .i64 0,.int .i64 0,.str ⟨#[]⟩,.nils]:=⟨ld_agg dag53 dsz53,(fun h=>st_cells dsz53 rfl rfl h),fbA dze53 (by simp [scalarV,Value.cells]) rfl,fbF Tryz.underlying53 rfl dsz3 rfl,fbF Tryz.underlying53 rfl dsz2 rfl,fbF Tryz.underlying53 rfl dsz9 rfl,fbF Tryz.underlying53 rfl dsz51 rfl,fbM Tryz.underlying53 dpl53 dze53 (by simp [scalarV,Value.cells]) rfl⟩
theorem fb59:FbL Tryz.prog 59 5∧FbSt5 Tryz.prog 59∧FbA Tryz.prog 59 [.str ⟨#[]⟩,.int .i64 0,.int .i64 0,.str ⟨#[]⟩,.nils]∧FbF Tryz.prog 59 0 0∧FbF Tryz.prog 59 1 1∧FbM Tryz.prog 59 [(0,1),(1,4)] [.str ⟨#[]⟩,.int .i64 0,.int .i64 0,.str ⟨#[]⟩,.nils]:=⟨ld_agg dag59 dsz59,(fun h=>st_cells dsz59 rfl rfl h),fbA dze59 (by simp [scalarV,Value.cells]) rfl,fbF Tryz.underlying59 rfl dsz9 rfl,fbF Tryz.underlying59 rfl dsz53 rfl,fbM Tryz.underlying59 dpl59 dze59 (by simp [scalarV,Value.cells]) rfl⟩
theorem fb61:FbL Tryz.prog 61 4∧FbSt4 Tryz.prog 61∧FbA Tryz.prog 61 [.int .i64 0,.int .i64 0,.int .i64 0,.str ⟨#[]⟩]∧FbF Tryz.prog 61 0 0∧FbF Tryz.prog 61 1 1∧FbF Tryz.prog 61 2 2∧FbF Tryz.prog 61 3 3∧FbM Tryz.prog 61 [(0,1),(1,1),(2,1),(3,1)] [.int .i64 0,.int .i64 0,.int .i64 0,.str ⟨#[]⟩]:=⟨ld_agg dag61 dsz61,(fun h=>st_cells dsz61 rfl rfl h),fbA dze61 (by simp [scalarV,Value.cells]) rfl,fbF Tryz.underlying61 rfl dsz2 rfl,fbF Tryz.underlying61 rfl dsz2 rfl,fbF Tryz.underlying61 rfl dsz2 rfl,fbF Tryz.underlying61 rfl dsz9 rfl,fbM Tryz.underlying61 dpl61 dze61 (by simp [scalarV,Value.cells]) rfl⟩
theorem fb63:FbL Tryz.prog 63 6∧FbSt6 Tryz.prog 63∧FbA Tryz.prog 63 [.str ⟨#[]⟩,.int .i64 0,.int .i64 0,.int .i64 0,.str ⟨#[]⟩,.nils]∧FbF Tryz.prog 63 0 0∧FbF Tryz.prog 63 1 1∧FbF Tryz.prog 63 2 5∧FbM Tryz.prog 63 [(0,1),(1,4),(5,1)] [.str ⟨#[]⟩,.int .i64 0,.int .i64 0,.int .i64 0,.str ⟨#[]⟩,.nils]:=⟨ld_agg dag63 dsz63,(fun h=>st_cells dsz63 rfl rfl h),fbA dze63 (by simp [scalarV,Value.cells]) rfl,fbF Tryz.underlying63 rfl dsz9 rfl,fbF Tryz.underlying63 rfl dsz61 rfl,fbF Tryz.underlying63 rfl dsz33 rfl,fbM Tryz.underlying63 dpl63 dze63 (by simp [scalarV,Value.cells]) rfl⟩
theorem fb66:FbL Tryz.prog 66 4∧FbSt4 Tryz.prog 66∧FbA Tryz.prog 66 [.int .i64 0,.int .i64 0,.int .i64 0,.str ⟨#[]⟩]∧FbF Tryz.prog 66 0 0∧FbF Tryz.prog 66 1 1∧FbF Tryz.prog 66 2 2∧FbF Tryz.prog 66 3 3∧FbM Tryz.prog 66 [(0,1),(1,1),(2,1),(3,1)] [.int .i64 0,.int .i64 0,.int .i64 0,.str ⟨#[]⟩]:=⟨ld_agg dag66 dsz66,(fun h=>st_cells dsz66 rfl rfl h),fbA dze66 (by simp [scalarV,Value.cells]) rfl,fbF Tryz.underlying66 rfl dsz2 rfl,fbF Tryz.underlying66 rfl dsz2 rfl,fbF Tryz.underlying66 rfl dsz2 rfl,fbF Tryz.underlying66 rfl dsz9 rfl,fbM Tryz.underlying66 dpl66 dze66 (by simp [scalarV,Value.cells]) rfl⟩
theorem fb68:FbL Tryz.prog 68 6∧FbSt6 Tryz.prog 68∧FbA Tryz.prog 68 [.str ⟨#[]⟩,.int .i64 0,.int .i64 0,.int .i64 0,.str ⟨#[]⟩,.nils]∧FbF Tryz.prog 68 0 0∧FbF Tryz.prog 68 1 1∧FbF Tryz.prog 68 2 5∧FbM Tryz.prog 68 [(0,1),(1,4),(5,1)] [.str ⟨#[]⟩,.int .i64 0,.int .i64 0,.int .i64 0,.str ⟨#[]⟩,.nils]:=⟨ld_agg dag68 dsz68,(fun h=>st_cells dsz68 rfl rfl h),fbA dze68 (by simp [scalarV,Value.cells]) rfl,fbF Tryz.underlying68 rfl dsz9 rfl,fbF Tryz.underlying68 rfl dsz66 rfl,fbF Tryz.underlying68 rfl dsz31 rfl,fbM Tryz.underlying68 dpl68 dze68 (by simp [scalarV,Value.cells]) rfl⟩
theorem fb70:FbS Tryz.prog 70 9 1∧FbE Tryz.prog 70 1 16 [.str ⟨#[]⟩]:=⟨fbS Tryz.underlying70 dag70 dsz70 dze70 dsz9,fbE del70 Tryz.underlying70 dsz9 dze9 (by simp [scalarV,Value.cells]) rfl rfl⟩
theorem fb85:FbL Tryz.prog 85 4∧FbSt4 Tryz.prog 85∧FbA Tryz.prog 85 [.int .i64 0,.int .i64 0,.str ⟨#[]⟩,.nils]∧FbF Tryz.prog 85 0 0∧FbF Tryz.prog 85 1 1∧FbF Tryz.prog 85 2 2∧FbF Tryz.prog 85 3 3∧FbM Tryz.prog 85 [(0,1),(1,1),(2,1),(3,1)] [.int .i64 0,.int .i64 0,.str ⟨#[]⟩,.nils]:=⟨ld_agg dag85 dsz85,(fun h=>st_cells dsz85 rfl rfl h),fbA dze85 (by simp [scalarV,Value.cells]) rfl,fbF Tryz.underlying85 rfl dsz3 rfl,fbF Tryz.underlying85 rfl dsz2 rfl,fbF Tryz.underlying85 rfl dsz9 rfl,fbF Tryz.underlying85 rfl dsz51 rfl,fbM Tryz.underlying85 dpl85 dze85 (by simp [scalarV,Value.cells]) rfl⟩
theorem fb87:FbL Tryz.prog 87 5∧FbSt5 Tryz.prog 87∧FbA Tryz.prog 87 [.str ⟨#[]⟩,.int .i64 0,.int .i64 0,.str ⟨#[]⟩,.nils]∧FbF Tryz.prog 87 0 0∧FbF Tryz.prog 87 1 1∧FbM Tryz.prog 87 [(0,1),(1,4)] [.str ⟨#[]⟩,.int .i64 0,.int .i64 0,.str ⟨#[]⟩,.nils]:=⟨ld_agg dag87 dsz87,(fun h=>st_cells dsz87 rfl rfl h),fbA dze87 (by simp [scalarV,Value.cells]) rfl,fbF Tryz.underlying87 rfl dsz9 rfl,fbF Tryz.underlying87 rfl dsz85 rfl,fbM Tryz.underlying87 dpl87 dze87 (by simp [scalarV,Value.cells]) rfl⟩
theorem fb158:FbL Tryz.prog 158 5∧FbSt5 Tryz.prog 158∧FbA Tryz.prog 158 [.str ⟨#[]⟩,.int .i64 0,.int .i64 0,.str ⟨#[]⟩,.nils]∧FbF Tryz.prog 158 0 0∧FbF Tryz.prog 158 1 1∧FbM Tryz.prog 158 [(0,1),(1,4)] [.str ⟨#[]⟩,.int .i64 0,.int .i64 0,.str ⟨#[]⟩,.nils]:=⟨ld_agg dag158 dsz158,(fun h=>st_cells dsz158 rfl rfl h),fbA dze158 (by simp [scalarV,Value.cells]) rfl,fbF Tryz.underlying158 rfl dsz9 rfl,fbF Tryz.underlying158 rfl dsz53 rfl,fbM Tryz.underlying158 dpl158 dze158 (by simp [scalarV,Value.cells]) rfl⟩
theorem fb159:FbS Tryz.prog 159 158 5∧FbE Tryz.prog 159 5 72 [.str ⟨#[]⟩,.int .i64 0,.int .i64 0,.str ⟨#[]⟩,.nils]:=⟨fbS Tryz.underlying159 dag159 dsz159 dze159 dsz158,fbE del159 Tryz.underlying159 dsz158 dze158 (by simp [scalarV,Value.cells]) rfl rfl⟩
theorem fb161:FbL Tryz.prog 161 1∧FbSt1 Tryz.prog 161∧FbA Tryz.prog 161 [.nils]∧FbF Tryz.prog 161 0 0∧FbM Tryz.prog 161 [(0,1)] [.nils]:=⟨ld_agg dag161 dsz161,(fun h=>st_cells dsz161 rfl rfl h),fbA dze161 (by simp [scalarV,Value.cells]) rfl,fbF Tryz.underlying161 rfl dsz159 rfl,fbM Tryz.underlying161 dpl161 dze161 (by simp [scalarV,Value.cells]) rfl⟩
theorem fb218:FbI Tryz.prog 218 .u64∧FbC Tryz.prog 2 218 .u64∧FbC Tryz.prog 3 218 .u64∧FbC Tryz.prog 5 218 .u64∧FbC Tryz.prog 218 218 .u64∧FbC Tryz.prog 220 218 .u64∧FbC Tryz.prog 228 218 .u64:=⟨fbI Tryz.underlying218 dag218 dsz218 dze218,conv_int Tryz.underlying2 Tryz.underlying218,conv_int Tryz.underlying3 Tryz.underlying218,conv_int Tryz.underlying5 Tryz.underlying218,conv_int Tryz.underlying218 Tryz.underlying218,conv_int Tryz.underlying220 Tryz.underlying218,conv_int Tryz.underlying228 Tryz.underlying218⟩
theorem c2:FnAt Tryz.prog 2:=⟨_,Tryz.func2,by decide,rfl⟩
theorem c7:FnAt Tryz.prog 7:=⟨_,Tryz.func7,by decide,rfl⟩
theorem c8:FnAt Tryz.prog 8:=⟨_,Tryz.func8,by decide,rfl⟩
theorem c12:FnAt Tryz.prog 12:=⟨_,Tryz.func12,by decide,rfl⟩
theorem c16:FnAt Tryz.prog 16:=⟨_,Tryz.func16,by decide,rfl⟩
theorem c21:FnAt Tryz.prog 21:=⟨_,Tryz.func21,by decide,rfl⟩
theorem c23:FnAt Tryz.prog 23:=⟨_,Tryz.func23,by decide,rfl⟩
theorem c26:FnAt Tryz.prog 26:=⟨_,Tryz.func26,by decide,rfl⟩
theorem c27:FnAt Tryz.prog 27:=⟨_,Tryz.func27,by decide,rfl⟩
theorem c28:FnAt Tryz.prog 28:=⟨_,Tryz.func28,by decide,rfl⟩
theorem c31:FnAt Tryz.prog 31:=⟨_,Tryz.func31,by decide,rfl⟩
theorem c35:FnAt Tryz.prog 35:=⟨_,Tryz.func35,by decide,rfl⟩
theorem c49:FnAt Tryz.prog 49:=⟨_,Tryz.func49,by decide,rfl⟩
theorem c52:FnAt Tryz.prog 52:=⟨_,Tryz.func52,by decide,rfl⟩
theorem c53:FnAt Tryz.prog 53:=⟨_,Tryz.func53,by decide,rfl⟩
theorem c56:FnAt Tryz.prog 56:=⟨_,Tryz.func56,by decide,rfl⟩
theorem c57:FnAt Tryz.prog 57:=⟨_,Tryz.func57,by decide,rfl⟩
theorem c58:FnAt Tryz.prog 58:=⟨_,Tryz.func58,by decide,rfl⟩
theorem c59:FnAt Tryz.prog 59:=⟨_,Tryz.func59,by decide,rfl⟩
theorem c60:FnAt Tryz.prog 60:=⟨_,Tryz.func60,by decide,rfl⟩
theorem c61:FnAt Tryz.prog 61:=⟨_,Tryz.func61,by decide,rfl⟩
theorem c62:FnAt Tryz.prog 62:=⟨_,Tryz.func62,by decide,rfl⟩
theorem c63:FnAt Tryz.prog 63:=⟨_,Tryz.func63,by decide,rfl⟩
theorem c64:FnAt Tryz.prog 64:=⟨_,Tryz.func64,by decide,rfl⟩
theorem c87:FnAt Tryz.prog 87:=⟨_,Tryz.func87,by decide,rfl⟩
theorem c93:FnAt Tryz.prog 93:=⟨_,Tryz.func93,by decide,rfl⟩
theorem c95:FnAt Tryz.prog 95:=⟨_,Tryz.func95,by decide,rfl⟩
theorem c96:FnAt Tryz.prog 96:=⟨_,Tryz.func96,by decide,rfl⟩
theorem c97:FnAt Tryz.prog 97:=⟨_,Tryz.func97,by decide,rfl⟩
theorem c98:FnAt Tryz.prog 98:=⟨_,Tryz.func98,by decide,rfl⟩
theorem c99:FnAt Tryz.prog 99:=⟨_,Tryz.func99,by decide,rfl⟩
theorem c100:FnAt Tryz.prog 100:=⟨_,Tryz.func100,by decide,rfl⟩
theorem c104:FnAt Tryz.prog 104:=⟨_,Tryz.func104,by decide,rfl⟩
theorem c105:FnAt Tryz.prog 105:=⟨_,Tryz.func105,by decide,rfl⟩
theorem c134:FnAt Tryz.prog 134:=⟨_,Tryz.func134,by decide,rfl⟩
theorem c138:FnAt Tryz.prog 138:=⟨_,Tryz.func138,by decide,rfl⟩
theorem c159:FnAt Tryz.prog 159:=⟨_,Tryz.func159,by decide,rfl⟩
theorem c180:FnAt Tryz.prog 180:=⟨_,Tryz.func180,by decide,rfl⟩
end Go.Proofs.DvF
