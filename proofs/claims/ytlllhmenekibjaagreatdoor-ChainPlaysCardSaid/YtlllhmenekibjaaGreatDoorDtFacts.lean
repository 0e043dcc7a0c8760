/- Facts on the types of the program: sizes, fields, places, zeros. -/
import Derived.Test.YtlllhmenekibjaaGreatDoorProg
import Derived.Test.YtlllhmenekibjaaGreatDoorDmOx
import Derived.KernelRfl
set_option linter.unusedSimpArgs false
set_option linter.unusedVariables false
namespace Go.Proofs.DtF
open Go Go.AM Go.DM
set_option maxRecDepth 100000
theorem dag2:isAggA Tryz.prog 2=some false:=congrArg (Option.map _) Tryz.underlying2
theorem dag3:isAggA Tryz.prog 3=some false:=congrArg (Option.map _) Tryz.underlying3
theorem dag4:isAggA Tryz.prog 4=some false:=congrArg (Option.map _) Tryz.underlying4
theorem dag5:isAggA Tryz.prog 5=some false:=congrArg (Option.map _) Tryz.underlying5
theorem dag9:isAggA Tryz.prog 9=some false:=congrArg (Option.map _) Tryz.underlying9
theorem dag24:isAggA Tryz.prog 24=some false:=congrArg (Option.map _) Tryz.underlying24
theorem dag25:isAggA Tryz.prog 25=some false:=congrArg (Option.map _) Tryz.underlying25
theorem dag28:isAggA Tryz.prog 28=some false:=congrArg (Option.map _) Tryz.underlying28
theorem dag30:isAggA Tryz.prog 30=some true:=congrArg (Option.map _) Tryz.underlying30
theorem dag32:isAggA Tryz.prog 32=some true:=congrArg (Option.map _) Tryz.underlying32
theorem dag33:isAggA Tryz.prog 33=some false:=congrArg (Option.map _) Tryz.underlying33
theorem dag35:isAggA Tryz.prog 35=some true:=congrArg (Option.map _) Tryz.underlying35
theorem dag41:isAggA Tryz.prog 41=some true:=congrArg (Option.map _) Tryz.underlying41
theorem dag42:isAggA Tryz.prog 42=some false:=congrArg (Option.map _) Tryz.underlying42
theorem dag44:isAggA Tryz.prog 44=some true:=congrArg (Option.map _) Tryz.underlying44
theorem dag51:isAggA Tryz.prog 51=some false:=congrArg (Option.map _) Tryz.underlying51
theorem dag62:isAggA Tryz.prog 62=some false:=congrArg (Option.map _) Tryz.underlying62
theorem dag70:isAggA Tryz.prog 70=some false:=congrArg (Option.map _) Tryz.underlying70
theorem dag71:isAggA Tryz.prog 71=some false:=congrArg (Option.map _) Tryz.underlying71
theorem dag74:isAggA Tryz.prog 74=some false:=congrArg (Option.map _) Tryz.underlying74
theorem dag76:isAggA Tryz.prog 76=some true:=congrArg (Option.map _) Tryz.underlying76
theorem dag80:isAggA Tryz.prog 80=some true:=congrArg (Option.map _) Tryz.underlying80
theorem dag99:isAggA Tryz.prog 99=some false:=congrArg (Option.map _) Tryz.underlying99
theorem dag102:isAggA Tryz.prog 102=some true:=congrArg (Option.map _) Tryz.underlying102
theorem dag116:isAggA Tryz.prog 116=some false:=congrArg (Option.map _) Tryz.underlying116
theorem dag118:isAggA Tryz.prog 118=some true:=congrArg (Option.map _) Tryz.underlying118
theorem dag120:isAggA Tryz.prog 120=some true:=congrArg (Option.map _) Tryz.underlying120
theorem dag128:isAggA Tryz.prog 128=some false:=congrArg (Option.map _) Tryz.underlying128
theorem dag130:isAggA Tryz.prog 130=some true:=congrArg (Option.map _) Tryz.underlying130
theorem dag136:isAggA Tryz.prog 136=some false:=congrArg (Option.map _) Tryz.underlying136
theorem dag138:isAggA Tryz.prog 138=some true:=congrArg (Option.map _) Tryz.underlying138
theorem dag139:isAggA Tryz.prog 139=some true:=congrArg (Option.map _) Tryz.underlying139
theorem dag141:isAggA Tryz.prog 141=some true:=congrArg (Option.map _) Tryz.underlying141
theorem dag143:isAggA Tryz.prog 143=some false:=congrArg (Option.map _) Tryz.underlying143
theorem dag148:isAggA Tryz.prog 148=some true:=congrArg (Option.map _) Tryz.underlying148
theorem dag181:isAggA Tryz.prog 181=some false:=congrArg (Option.map _) Tryz.underlying181
theorem dtys:(tyA Tryz.prog 2,tyA Tryz.prog 3,tyA Tryz.prog 4,tyA Tryz.prog 5,tyA Tryz.prog 9,tyA Tryz.prog 22,tyA Tryz.prog 37,tyA Tryz.prog 24,tyA Tryz.prog 25,tyA Tryz.prog 28,tyA Tryz.prog 44,tyA Tryz.prog 30,tyA Tryz.prog 32,tyA Tryz.prog 33,tyA Tryz.prog 141,tyA Tryz.prog 35,tyA Tryz.prog 41,tyA Tryz.prog 42,tyA Tryz.prog 120,tyA Tryz.prog 51,tyA Tryz.prog 62,tyA Tryz.prog 70,tyA Tryz.prog 80,tyA Tryz.prog 71,tyA Tryz.prog 74,tyA Tryz.prog 76,tyA Tryz.prog 97,tyA Tryz.prog 99,tyA Tryz.prog 102,tyA Tryz.prog 116,tyA Tryz.prog 118,tyA Tryz.prog 128,tyA Tryz.prog 130,tyA Tryz.prog 136,tyA Tryz.prog 148,tyA Tryz.prog 138,tyA Tryz.prog 139,tyA Tryz.prog 143,tyA Tryz.prog 181,())=((some 1,some 8,some (.int .i64 0),none),(some 1,some 8,some (.int .i64 0),none),(some 1,some 1,some (.bool false),none),(some 1,some 1,some (.int .u8 0),none),(some 1,some 16,some (.string ⟨#[]⟩),none),(some 1,some 24,some (.slice none 0 0),none),(some 10,some 120,some (.agg #[.int .i64 0,.string ⟨#[]⟩,.int .i64 0,.int .i64 0,.int .i64 0,.string ⟨#[]⟩,.slice none 0 0,.string ⟨#[]⟩,.int .i64 0,.int .i64 0]),some [(0,1),(1,6),(7,1),(8,1),(9,1)]),(some 1,some 8,some (.pointer none),none),(some 1,some 8,some (.int .i64 0),none),(some 1,some 24,some (.slice none 0 0),none),(some 6,some 80,some (.agg #[.string ⟨#[]⟩,.int .i64 0,.int .i64 0,.int .i64 0,.string ⟨#[]⟩,.slice none 0 0]),some [(0,1),(1,4),(5,1)]),(some 2,some 32,some (.agg #[.int .i64 0,.slice none 0 0]),some [(0,1),(1,1)]),(some 4,some 40,some (.agg #[.int .i64 0,.int .i64 0,.int .i64 0,.string ⟨#[]⟩]),some [(0,1),(1,1),(2,1),(3,1)]),(some 1,some 24,some (.slice none 0 0),none),(some 5,some 72,some (.agg #[.string ⟨#[]⟩,.int .i64 0,.int .i64 0,.string ⟨#[]⟩,.slice none 0 0]),some [(0,1),(1,4)]),(some 6,some 80,some (.agg #[.string ⟨#[]⟩,.int .i64 0,.int .i64 0,.int .i64 0,.string ⟨#[]⟩,.slice none 0 0]),some [(0,1),(1,4),(5,1)]),(some 4,some 40,some (.agg #[.int .i64 0,.int .i64 0,.int .i64 0,.string ⟨#[]⟩]),some [(0,1),(1,1),(2,1),(3,1)]),(some 1,some 24,some (.slice none 0 0),none),(some 5,some 72,some (.agg #[.string ⟨#[]⟩,.int .i64 0,.int .i64 0,.string ⟨#[]⟩,.slice none 0 0]),some [(0,1),(1,4)]),(some 1,some 24,some (.slice none 0 0),none),(some 1,some 24,some (.slice none 0 0),none),(some 1,some 24,some (.slice none 0 0),none),(some 10,some 120,some (.agg #[.int .i64 0,.string ⟨#[]⟩,.string ⟨#[]⟩,.int .i64 0,.int .i64 0,.int .i64 0,.string ⟨#[]⟩,.slice none 0 0,.int .i64 0,.int .i64 0]),some [(0,1),(1,1),(2,6),(8,1),(9,1)]),(some 1,some 8,some (.pointer none),none),(some 1,some 24,some (.slice none 0 0),none),(some 3,some 64,some (.agg #[.string ⟨#[]⟩,.slice none 0 0,.slice none 0 0]),some [(0,1),(1,1),(2,1)]),(some 1,some 24,some (.slice none 0 0),none),(some 1,some 8,some (.pointer none),none),(some 2,some 16,some (.agg #[.int .i64 0,.pointer none]),some [(0,1),(1,1)]),(some 1,some 24,some (.slice none 0 0),none),(some 4,some 56,some (.agg #[.int .i64 0,.int .i64 0,.string ⟨#[]⟩,.slice none 0 0]),some [(0,1),(1,1),(2,1),(3,1)]),(some 1,some 24,some (.slice none 0 0),none),(some 3,some 72,some (.agg #[.slice none 0 0,.slice none 0 0,.slice none 0 0]),some [(0,1),(1,1),(2,1)]),(some 1,some 24,some (.slice none 0 0),none),(some 7,some 96,some (.agg #[.string ⟨#[]⟩,.string ⟨#[]⟩,.int .i64 0,.int .i64 0,.int .i64 0,.string ⟨#[]⟩,.slice none 0 0]),some [(0,1),(1,6)]),(some 1,some 24,some (.agg #[.slice none 0 0]),some [(0,1)]),(some 4,some 56,some (.agg #[.int .i64 0,.int .i64 0,.string ⟨#[]⟩,.slice none 0 0]),some [(0,1),(1,1),(2,1),(3,1)]),(some 1,some 24,some (.slice none 0 0),none),(some 1,some 8,some (.int .u64 0),none),()):=by kernel_rfl
theorem dsz2:sizeA Tryz.prog 2=some 1:=congrArg (fun x=>x.1.1) dtys
theorem dby2:(Tryz.prog.info? 2).map (·.bytes)=some 8:=congrArg (fun x=>x.1.2.1) dtys
theorem dze2:zeroA Tryz.prog 2=some (.int .i64 0):=congrArg (fun x=>x.1.2.2.1) dtys
theorem dsz3:sizeA Tryz.prog 3=some 1:=congrArg (fun x=>x.2.1.1) dtys
theorem dby3:(Tryz.prog.info? 3).map (·.bytes)=some 8:=congrArg (fun x=>x.2.1.2.1) dtys
theorem dze3:zeroA Tryz.prog 3=some (.int .i64 0):=congrArg (fun x=>x.2.1.2.2.1) dtys
theorem dsz4:sizeA Tryz.prog 4=some 1:=congrArg (fun x=>x.2.2.1.1) dtys
theorem dze4:zeroA Tryz.prog 4=some (.bool false):=congrArg (fun x=>x.2.2.1.2.2.1) dtys
theorem dsz5:sizeA Tryz.prog 5=some 1:=congrArg (fun x=>x.2.2.2.1.1) dtys
theorem dze5:zeroA Tryz.prog 5=some (.int .u8 0):=congrArg (fun x=>x.2.2.2.1.2.2.1) dtys
theorem dsz9:sizeA Tryz.prog 9=some 1:=congrArg (fun x=>x.2.2.2.2.1.1) dtys
theorem dby9:(Tryz.prog.info? 9).map (·.bytes)=some 16:=congrArg (fun x=>x.2.2.2.2.1.2.1) dtys
theorem dze9:zeroA Tryz.prog 9=some (.string ⟨#[]⟩):=congrArg (fun x=>x.2.2.2.2.1.2.2.1) dtys
theorem dsz24:sizeA Tryz.prog 24=some 1:=congrArg (fun x=>x.2.2.2.2.2.2.2.1.1) dtys
theorem dby24:(Tryz.prog.info? 24).map (·.bytes)=some 8:=congrArg (fun x=>x.2.2.2.2.2.2.2.1.2.1) dtys
theorem dze24:zeroA Tryz.prog 24=some (.pointer none):=congrArg (fun x=>x.2.2.2.2.2.2.2.1.2.2.1) dtys
theorem dsz25:sizeA Tryz.prog 25=some 1:=congrArg (fun x=>x.2.2.2.2.2.2.2.2.1.1) dtys
theorem dze25:zeroA Tryz.prog 25=some (.int .i64 0):=congrArg (fun x=>x.2.2.2.2.2.2.2.2.1.2.2.1) dtys
theorem dsz28:sizeA Tryz.prog 28=some 1:=congrArg (fun x=>x.2.2.2.2.2.2.2.2.2.1.1) dtys
theorem dze28:zeroA Tryz.prog 28=some (.slice none 0 0):=congrArg (fun x=>x.2.2.2.2.2.2.2.2.2.1.2.2.1) dtys
theorem dsz44:sizeA Tryz.prog 44=some 6:=congrArg (fun x=>x.2.2.2.2.2.2.2.2.2.2.1.1) dtys
theorem dby44:(Tryz.prog.info? 44).map (·.bytes)=some 80:=congrArg (fun x=>x.2.2.2.2.2.2.2.2.2.2.1.2.1) dtys
theorem dze44:zeroA Tryz.prog 44=some (.agg #[.string ⟨#[]⟩,.int .i64 0,.int .i64 0,.int .i64 0,.string ⟨#[]⟩,.slice none 0 0]):=congrArg (fun x=>x.2.2.2.2.2.2.2.2.2.2.1.2.2.1) dtys
theorem dpl44:placesA Tryz.prog 44=some [(0,1),(1,4),(5,1)]:=congrArg (fun x=>x.2.2.2.2.2.2.2.2.2.2.1.2.2.2) dtys
theorem dsz30:sizeA Tryz.prog 30=some 2:=congrArg (fun x=>x.2.2.2.2.2.2.2.2.2.2.2.1.1) dtys
theorem dby30:(Tryz.prog.info? 30).map (·.bytes)=some 32:=congrArg (fun x=>x.2.2.2.2.2.2.2.2.2.2.2.1.2.1) dtys
theorem dze30:zeroA Tryz.prog 30=some (.agg #[.int .i64 0,.slice none 0 0]):=congrArg (fun x=>x.2.2.2.2.2.2.2.2.2.2.2.1.2.2.1) dtys
theorem dpl30:placesA Tryz.prog 30=some [(0,1),(1,1)]:=congrArg (fun x=>x.2.2.2.2.2.2.2.2.2.2.2.1.2.2.2) dtys
theorem dsz32:sizeA Tryz.prog 32=some 4:=congrArg (fun x=>x.2.2.2.2.2.2.2.2.2.2.2.2.1.1) dtys
theorem dze32:zeroA Tryz.prog 32=some (.agg #[.int .i64 0,.int .i64 0,.int .i64 0,.string ⟨#[]⟩]):=congrArg (fun x=>x.2.2.2.2.2.2.2.2.2.2.2.2.1.2.2.1) dtys
theorem dpl32:placesA Tryz.prog 32=some [(0,1),(1,1),(2,1),(3,1)]:=congrArg (fun x=>x.2.2.2.2.2.2.2.2.2.2.2.2.1.2.2.2) dtys
theorem dsz33:sizeA Tryz.prog 33=some 1:=congrArg (fun x=>x.2.2.2.2.2.2.2.2.2.2.2.2.2.1.1) dtys
theorem dze33:zeroA Tryz.prog 33=some (.slice none 0 0):=congrArg (fun x=>x.2.2.2.2.2.2.2.2.2.2.2.2.2.1.2.2.1) dtys
theorem dsz141:sizeA Tryz.prog 141=some 5:=congrArg (fun x=>x.2.2.2.2.2.2.2.2.2.2.2.2.2.2.1.1) dtys
theorem dby141:(Tryz.prog.info? 141).map (·.bytes)=some 72:=congrArg (fun x=>x.2.2.2.2.2.2.2.2.2.2.2.2.2.2.1.2.1) dtys
theorem dze141:zeroA Tryz.prog 141=some (.agg #[.string ⟨#[]⟩,.int .i64 0,.int .i64 0,.string ⟨#[]⟩,.slice none 0 0]):=congrArg (fun x=>x.2.2.2.2.2.2.2.2.2.2.2.2.2.2.1.2.2.1) dtys
theorem dpl141:placesA Tryz.prog 141=some [(0,1),(1,4)]:=congrArg (fun x=>x.2.2.2.2.2.2.2.2.2.2.2.2.2.2.1.2.2.2) dtys
theorem dsz35:sizeA Tryz.prog 35=some 6:=congrArg (fun x=>x.2.2.2.2.2.2.2.2.2.2.2.2.2.2.2.1.1) dtys
theorem dby35:(Tryz.prog.info? 35).map (·.bytes)=some 80:=congrArg (fun x=>x.2.2.2.2.2.2.2.2.2.2.2.2.2.2.2.1.2.1) dtys
theorem dze35:zeroA Tryz.prog 35=some (.agg #[.string ⟨#[]⟩,.int .i64 0,.int .i64 0,.int .i64 0,.string ⟨#[]⟩,.slice none 0 0]):=congrArg (fun x=>x.2.2.2.2.2.2.2.2.2.2.2.2.2.2.2.1.2.2.1) dtys
theorem dpl35:placesA Tryz.prog 35=some [(0,1),(1,4),(5,1)]:=congrArg (fun x=>x.2.2.2.2.2.2.2.2.2.2.2.2.2.2.2.1.2.2.2) dtys
theorem dsz41:sizeA Tryz.prog 41=some 4:=congrArg (fun x=>x.2.2.2.2.2.2.2.2.2.2.2.2.2.2.2.2.1.1) dtys
theorem dze41:zeroA Tryz.prog 41=some (.agg #[.int .i64 0,.int .i64 0,.int .i64 0,.string ⟨#[]⟩]):=congrArg (fun x=>x.2.2.2.2.2.2.2.2.2.2.2.2.2.2.2.2.1.2.2.1) dtys
theorem dpl41:placesA Tryz.prog 41=some [(0,1),(1,1),(2,1),(3,1)]:=congrArg (fun x=>x.2.2.2.2.2.2.2.2.2.2.2.2.2.2.2.2.1.2.2.2) dtys
theorem dsz42:sizeA Tryz.prog 42=some 1:=congrArg (fun x=>x.2.2.2.2.2.2.2.2.2.2.2.2.2.2.2.2.2.1.1) dtys
theorem dze42:zeroA Tryz.prog 42=some (.slice none 0 0):=congrArg (fun x=>x.2.2.2.2.2.2.2.2.2.2.2.2.2.2.2.2.2.1.2.2.1) dtys
theorem dsz120:sizeA Tryz.prog 120=some 5:=congrArg (fun x=>x.2.2.2.2.2.2.2.2.2.2.2.2.2.2.2.2.2.2.1.1) dtys
theorem dby120:(Tryz.prog.info? 120).map (·.bytes)=some 72:=congrArg (fun x=>x.2.2.2.2.2.2.2.2.2.2.2.2.2.2.2.2.2.2.1.2.1) dtys
theorem dze120:zeroA Tryz.prog 120=some (.agg #[.string ⟨#[]⟩,.int .i64 0,.int .i64 0,.string ⟨#[]⟩,.slice none 0 0]):=congrArg (fun x=>x.2.2.2.2.2.2.2.2.2.2.2.2.2.2.2.2.2.2.1.2.2.1) dtys
theorem dpl120:placesA Tryz.prog 120=some [(0,1),(1,4)]:=congrArg (fun x=>x.2.2.2.2.2.2.2.2.2.2.2.2.2.2.2.2.2.2.1.2.2.2) dtys
theorem dsz51:sizeA Tryz.prog 51=some 1:=congrArg (fun x=>x.2.2.2.2.2.2.2.2.2.2.2.2.2.2.2.2.2.2.2.1.1) dtys
theorem dze51:zeroA Tryz.prog 51=some (.slice none 0 0):=congrArg (fun x=>x.2.2.2.2.2.2.2.2.2.2.2.2.2.2.2.2.2.2.2.1.2.2.1) dtys
theorem dsz62:sizeA Tryz.prog 62=some 1:=congrArg (fun x=>x.2.2.2.2.2.2.2.2.2.2.2.2.2.2.2.2.2.2.2.2.1.1) dtys
theorem dze62:zeroA Tryz.prog 62=some (.slice none 0 0):=congrArg (fun x=>x.2.2.2.2.2.2.2.2.2.2.2.2.2.2.2.2.2.2.2.2.1.2.2.1) dtys
theorem dsz70:sizeA Tryz.prog 70=some 1:=congrArg (fun x=>x.2.2.2.2.2.2.2.2.2.2.2.2.2.2.2.2.2.2.2.2.2.1.1) dtys
theorem dze70:zeroA Tryz.prog 70=some (.slice none 0 0):=congrArg (fun x=>x.2.2.2.2.2.2.2.2.2.2.2.2.2.2.2.2.2.2.2.2.2.1.2.2.1) dtys
theorem dsz80:sizeA Tryz.prog 80=some 10:=congrArg (fun x=>x.2.2.2.2.2.2.2.2.2.2.2.2.2.2.2.2.2.2.2.2.2.2.1.1) dtys
theorem dby80:(Tryz.prog.info? 80).map (·.bytes)=some 120:=congrArg (fun x=>x.2.2.2.2.2.2.2.2.2.2.2.2.2.2.2.2.2.2.2.2.2.2.1.2.1) dtys
theorem dze80:zeroA Tryz.prog 80=some (.agg #[.int .i64 0,.string ⟨#[]⟩,.string ⟨#[]⟩,.int .i64 0,.int .i64 0,.int .i64 0,.string ⟨#[]⟩,.slice none 0 0,.int .i64 0,.int .i64 0]):=congrArg (fun x=>x.2.2.2.2.2.2.2.2.2.2.2.2.2.2.2.2.2.2.2.2.2.2.1.2.2.1) dtys
theorem dpl80:placesA Tryz.prog 80=some [(0,1),(1,1),(2,6),(8,1),(9,1)]:=congrArg (fun x=>x.2.2.2.2.2.2.2.2.2.2.2.2.2.2.2.2.2.2.2.2.2.2.1.2.2.2) dtys
theorem dsz71:sizeA Tryz.prog 71=some 1:=congrArg (fun x=>x.2.2.2.2.2.2.2.2.2.2.2.2.2.2.2.2.2.2.2.2.2.2.2.1.1) dtys
theorem dze71:zeroA Tryz.prog 71=some (.pointer none):=congrArg (fun x=>x.2.2.2.2.2.2.2.2.2.2.2.2.2.2.2.2.2.2.2.2.2.2.2.1.2.2.1) dtys
theorem dsz74:sizeA Tryz.prog 74=some 1:=congrArg (fun x=>x.2.2.2.2.2.2.2.2.2.2.2.2.2.2.2.2.2.2.2.2.2.2.2.2.1.1) dtys
theorem dze74:zeroA Tryz.prog 74=some (.slice none 0 0):=congrArg (fun x=>x.2.2.2.2.2.2.2.2.2.2.2.2.2.2.2.2.2.2.2.2.2.2.2.2.1.2.2.1) dtys
theorem dsz76:sizeA Tryz.prog 76=some 3:=congrArg (fun x=>x.2.2.2.2.2.2.2.2.2.2.2.2.2.2.2.2.2.2.2.2.2.2.2.2.2.1.1) dtys
theorem dze76:zeroA Tryz.prog 76=some (.agg #[.string ⟨#[]⟩,.slice none 0 0,.slice none 0 0]):=congrArg (fun x=>x.2.2.2.2.2.2.2.2.2.2.2.2.2.2.2.2.2.2.2.2.2.2.2.2.2.1.2.2.1) dtys
theorem dpl76:placesA Tryz.prog 76=some [(0,1),(1,1),(2,1)]:=congrArg (fun x=>x.2.2.2.2.2.2.2.2.2.2.2.2.2.2.2.2.2.2.2.2.2.2.2.2.2.1.2.2.2) dtys
theorem dsz99:sizeA Tryz.prog 99=some 1:=congrArg (fun x=>x.2.2.2.2.2.2.2.2.2.2.2.2.2.2.2.2.2.2.2.2.2.2.2.2.2.2.2.1.1) dtys
theorem dze99:zeroA Tryz.prog 99=some (.pointer none):=congrArg (fun x=>x.2.2.2.2.2.2.2.2.2.2.2.2.2.2.2.2.2.2.2.2.2.2.2.2.2.2.2.1.2.2.1) dtys
theorem dsz102:sizeA Tryz.prog 102=some 2:=congrArg (fun x=>x.2.2.2.2.2.2.2.2.2.2.2.2.2.2.2.2.2.2.2.2.2.2.2.2.2.2.2.2.1.1) dtys
theorem dze102:zeroA Tryz.prog 102=some (.agg #[.int .i64 0,.pointer none]):=congrArg (fun x=>x.2.2.2.2.2.2.2.2.2.2.2.2.2.2.2.2.2.2.2.2.2.2.2.2.2.2.2.2.1.2.2.1) dtys
theorem dpl102:placesA Tryz.prog 102=some [(0,1),(1,1)]:=congrArg (fun x=>x.2.2.2.2.2.2.2.2.2.2.2.2.2.2.2.2.2.2.2.2.2.2.2.2.2.2.2.2.1.2.2.2) dtys
theorem dsz116:sizeA Tryz.prog 116=some 1:=congrArg (fun x=>x.2.2.2.2.2.2.2.2.2.2.2.2.2.2.2.2.2.2.2.2.2.2.2.2.2.2.2.2.2.1.1) dtys
theorem dze116:zeroA Tryz.prog 116=some (.slice none 0 0):=congrArg (fun x=>x.2.2.2.2.2.2.2.2.2.2.2.2.2.2.2.2.2.2.2.2.2.2.2.2.2.2.2.2.2.1.2.2.1) dtys
theorem dsz118:sizeA Tryz.prog 118=some 4:=congrArg (fun x=>x.2.2.2.2.2.2.2.2.2.2.2.2.2.2.2.2.2.2.2.2.2.2.2.2.2.2.2.2.2.2.1.1) dtys
theorem dze118:zeroA Tryz.prog 118=some (.agg #[.int .i64 0,.int .i64 0,.string ⟨#[]⟩,.slice none 0 0]):=congrArg (fun x=>x.2.2.2.2.2.2.2.2.2.2.2.2.2.2.2.2.2.2.2.2.2.2.2.2.2.2.2.2.2.2.1.2.2.1) dtys
theorem dpl118:placesA Tryz.prog 118=some [(0,1),(1,1),(2,1),(3,1)]:=congrArg (fun x=>x.2.2.2.2.2.2.2.2.2.2.2.2.2.2.2.2.2.2.2.2.2.2.2.2.2.2.2.2.2.2.1.2.2.2) dtys
theorem dsz128:sizeA Tryz.prog 128=some 1:=congrArg (fun x=>x.2.2.2.2.2.2.2.2.2.2.2.2.2.2.2.2.2.2.2.2.2.2.2.2.2.2.2.2.2.2.2.1.1) dtys
theorem dze128:zeroA Tryz.prog 128=some (.slice none 0 0):=congrArg (fun x=>x.2.2.2.2.2.2.2.2.2.2.2.2.2.2.2.2.2.2.2.2.2.2.2.2.2.2.2.2.2.2.2.1.2.2.1) dtys
theorem dsz130:sizeA Tryz.prog 130=some 3:=congrArg (fun x=>x.2.2.2.2.2.2.2.2.2.2.2.2.2.2.2.2.2.2.2.2.2.2.2.2.2.2.2.2.2.2.2.2.1.1) dtys
theorem dze130:zeroA Tryz.prog 130=some (.agg #[.slice none 0 0,.slice none 0 0,.slice none 0 0]):=congrArg (fun x=>x.2.2.2.2.2.2.2.2.2.2.2.2.2.2.2.2.2.2.2.2.2.2.2.2.2.2.2.2.2.2.2.2.1.2.2.1) dtys
theorem dpl130:placesA Tryz.prog 130=some [(0,1),(1,1),(2,1)]:=congrArg (fun x=>x.2.2.2.2.2.2.2.2.2.2.2.2.2.2.2.2.2.2.2.2.2.2.2.2.2.2.2.2.2.2.2.2.1.2.2.2) dtys
theorem dsz136:sizeA Tryz.prog 136=some 1:=congrArg (fun x=>x.2.2.2.2.2.2.2.2.2.2.2.2.2.2.2.2.2.2.2.2.2.2.2.2.2.2.2.2.2.2.2.2.2.1.1) dtys
theorem dze136:zeroA Tryz.prog 136=some (.slice none 0 0):=congrArg (fun x=>x.2.2.2.2.2.2.2.2.2.2.2.2.2.2.2.2.2.2.2.2.2.2.2.2.2.2.2.2.2.2.2.2.2.1.2.2.1) dtys
theorem dsz148:sizeA Tryz.prog 148=some 7:=congrArg (fun x=>x.2.2.2.2.2.2.2.2.2.2.2.2.2.2.2.2.2.2.2.2.2.2.2.2.2.2.2.2.2.2.2.2.2.2.1.1) dtys
theorem dby148:(Tryz.prog.info? 148).map (·.bytes)=some 96:=congrArg (fun x=>x.2.2.2.2.2.2.2.2.2.2.2.2.2.2.2.2.2.2.2.2.2.2.2.2.2.2.2.2.2.2.2.2.2.2.1.2.1) dtys
theorem dze148:zeroA Tryz.prog 148=some (.agg #[.string ⟨#[]⟩,.string ⟨#[]⟩,.int .i64 0,.int .i64 0,.int .i64 0,.string ⟨#[]⟩,.slice none 0 0]):=congrArg (fun x=>x.2.2.2.2.2.2.2.2.2.2.2.2.2.2.2.2.2.2.2.2.2.2.2.2.2.2.2.2.2.2.2.2.2.2.1.2.2.1) dtys
theorem dpl148:placesA Tryz.prog 148=some [(0,1),(1,6)]:=congrArg (fun x=>x.2.2.2.2.2.2.2.2.2.2.2.2.2.2.2.2.2.2.2.2.2.2.2.2.2.2.2.2.2.2.2.2.2.2.1.2.2.2) dtys
theorem dsz138:sizeA Tryz.prog 138=some 1:=congrArg (fun x=>x.2.2.2.2.2.2.2.2.2.2.2.2.2.2.2.2.2.2.2.2.2.2.2.2.2.2.2.2.2.2.2.2.2.2.2.1.1) dtys
theorem dze138:zeroA Tryz.prog 138=some (.agg #[.slice none 0 0]):=congrArg (fun x=>x.2.2.2.2.2.2.2.2.2.2.2.2.2.2.2.2.2.2.2.2.2.2.2.2.2.2.2.2.2.2.2.2.2.2.2.1.2.2.1) dtys
theorem dpl138:placesA Tryz.prog 138=some [(0,1)]:=congrArg (fun x=>x.2.2.2.2.2.2.2.2.2.2.2.2.2.2.2.2.2.2.2.2.2.2.2.2.2.2.2.2.2.2.2.2.2.2.2.1.2.2.2) dtys
theorem dsz139:sizeA Tryz.prog 139=some 4:=congrArg (fun x=>x.2.2.2.2.2.2.2.2.2.2.2.2.2.2.2.2.2.2.2.2.2.2.2.2.2.2.2.2.2.2.2.2.2.2.2.2.1.1) dtys
theorem dze139:zeroA Tryz.prog 139=some (.agg #[.int .i64 0,.int .i64 0,.string ⟨#[]⟩,.slice none 0 0]):=congrArg (fun x=>x.2.2.2.2.2.2.2.2.2.2.2.2.2.2.2.2.2.2.2.2.2.2.2.2.2.2.2.2.2.2.2.2.2.2.2.2.1.2.2.1) dtys
theorem dpl139:placesA Tryz.prog 139=some [(0,1),(1,1),(2,1),(3,1)]:=congrArg (fun x=>x.2.2.2.2.2.2.2.2.2.2.2.2.2.2.2.2.2.2.2.2.2.2.2.2.2.2.2.2.2.2.2.2.2.2.2.2.1.2.2.2) dtys
theorem dsz143:sizeA Tryz.prog 143=some 1:=congrArg (fun x=>x.2.2.2.2.2.2.2.2.2.2.2.2.2.2.2.2.2.2.2.2.2.2.2.2.2.2.2.2.2.2.2.2.2.2.2.2.2.1.1) dtys
theorem dze143:zeroA Tryz.prog 143=some (.slice none 0 0):=congrArg (fun x=>x.2.2.2.2.2.2.2.2.2.2.2.2.2.2.2.2.2.2.2.2.2.2.2.2.2.2.2.2.2.2.2.2.2.2.2.2.2.1.2.2.1) dtys
theorem dsz181:sizeA Tryz.prog 181=some 1:=congrArg (fun x=>x.2.2.2.2.2.2.2.2.2.2.2.2.2.2.2.2.2.2.2.2.2.2.2.2.2.2.2.2.2.2.2.2.2.2.2.2.2.2.1.1) dtys
theorem dze181:zeroA Tryz.prog 181=some (.int .u64 0):=congrArg (fun x=>x.2.2.2.2.2.2.2.2.2.2.2.2.2.2.2.2.2.2.2.2.2.2.2.2.2.2.2.2.2.2.2.2.2.2.2.2.2.2.1.2.2.1) dtys
theorem del28:ElemT Tryz.prog 28 44 6 80:=elemT_at Tryz.underlying28 dsz44 dby44 dze44 rfl
theorem del33:ElemT Tryz.prog 33 141 5 72:=elemT_at Tryz.underlying33 dsz141 dby141 dze141 rfl
theorem del42:ElemT Tryz.prog 42 120 5 72:=elemT_at Tryz.underlying42 dsz120 dby120 dze120 rfl
theorem del51:ElemT Tryz.prog 51 9 1 16:=elemT_at Tryz.underlying51 dsz9 dby9 dze9 rfl
theorem del62:ElemT Tryz.prog 62 35 6 80:=elemT_at Tryz.underlying62 dsz35 dby35 dze35 rfl
theorem del70:ElemT Tryz.prog 70 80 10 120:=elemT_at Tryz.underlying70 dsz80 dby80 dze80 rfl
theorem del74:ElemT Tryz.prog 74 30 2 32:=elemT_at Tryz.underlying74 dsz30 dby30 dze30 rfl
theorem del116:ElemT Tryz.prog 116 2 1 8:=elemT_at Tryz.underlying116 dsz2 dby2 dze2 rfl
theorem del128:ElemT Tryz.prog 128 24 1 8:=elemT_at Tryz.underlying128 dsz24 dby24 dze24 rfl
theorem del136:ElemT Tryz.prog 136 148 7 96:=elemT_at Tryz.underlying136 dsz148 dby148 dze148 rfl
theorem del143:ElemT Tryz.prog 143 3 1 8:=elemT_at Tryz.underlying143 dsz3 dby3 dze3 rfl
theorem dmx:Tryz.prog.follows .mixedOrders=true:=by kernel_rfl
theorem fb2:FbI Tryz.prog 2 .i64∧FbC Tryz.prog 2 2 .i64∧FbC Tryz.prog 3 2 .i64∧FbC Tryz.prog 5 2 .i64∧FbC Tryz.prog 25 2 .i64∧FbC Tryz.prog 181 2 .i64:=⟨fbI Tryz.underlying2 dag2 dsz2 dze2,conv_int Tryz.underlying2 Tryz.underlying2,conv_int Tryz.underlying3 Tryz.underlying2,conv_int Tryz.underlying5 Tryz.underlying2,conv_int Tryz.underlying25 Tryz.underlying2,conv_int Tryz.underlying181 Tryz.underlying2⟩
theorem fb3:FbI Tryz.prog 3 .i64∧FbC Tryz.prog 2 3 .i64∧FbC Tryz.prog 3 3 .i64∧FbC Tryz.prog 5 3 .i64∧FbC Tryz.prog 25 3 .i64∧FbC Tryz.prog 181 3 .i64:=⟨fbI Tryz.underlying3 dag3 dsz3 dze3,conv_int Tryz.underlying2 Tryz.underlying3,conv_int Tryz.underlying3 Tryz.underlying3,conv_int Tryz.underlying5 Tryz.underlying3,conv_int Tryz.underlying25 Tryz.underlying3,conv_int Tryz.underlying181 Tryz.underlying3⟩
theorem fb4:FbB Tryz.prog 4:=fbB Tryz.underlying4 dag4 dsz4 dze4
theorem fb5:FbI Tryz.prog 5 .u8∧FbC Tryz.prog 2 5 .u8∧FbC Tryz.prog 3 5 .u8∧FbC Tryz.prog 5 5 .u8∧FbC Tryz.prog 25 5 .u8∧FbC Tryz.prog 181 5 .u8:=⟨fbI Tryz.underlying5 dag5 dsz5 dze5,conv_int Tryz.underlying2 Tryz.underlying5,conv_int Tryz.underlying3 Tryz.underlying5,conv_int Tryz.underlying5 Tryz.underlying5,conv_int Tryz.underlying25 Tryz.underlying5,conv_int Tryz.underlying181 Tryz.underlying5⟩
theorem fb9:FbT Tryz.prog 9∧FbCT Tryz.prog 9 9:=⟨fbT Tryz.underlying9 dag9 dsz9 dze9,conv_str Tryz.underlying9 Tryz.underlying9⟩
theorem fb24:FbP Tryz.prog 24 102:=fbP Tryz.underlying24 dag24 dsz24 dze24
theorem fb25:FbI Tryz.prog 25 .i64∧FbC Tryz.prog 2 25 .i64∧FbC Tryz.prog 3 25 .i64∧FbC Tryz.prog 5 25 .i64∧FbC Tryz.prog 25 25 .i64∧FbC Tryz.prog 181 25 .i64:=⟨fbI Tryz.underlying25 dag25 dsz25 dze25,conv_int Tryz.underlying2 Tryz.underlying25,conv_int Tryz.underlying3 Tryz.underlying25,conv_int Tryz.underlying5 Tryz.underlying25,conv_int Tryz.underlying25 Tryz.underlying25,conv_int Tryz.underlying181 Tryz.underlying25⟩
theorem fb28:FbS Tryz.prog 28 44 6∧FbE Tryz.prog 28 6 80 [.str ⟨#[]⟩,.int .i64 0,.int .i64 0,.int .i64 0,.str ⟨#[]⟩,.nils]:=⟨fbS Tryz.underlying28 dag28 dsz28 dze28 dsz44,fbE del28 Tryz.underlying28 dsz44 dze44 (by simp [scalarV,Value.cells]) rfl rfl⟩
theorem fb30:FbL Tryz.prog 30 2∧FbSt2 Tryz.prog 30∧FbA Tryz.prog 30 [.int .i64 0,.nils]∧FbF Tryz.prog 30 0 0∧FbF Tryz.prog 30 1 1∧FbM Tryz.prog 30 [(0,1),(1,1)] [.int .i64 0,.nils]:=⟨ld_agg dag30 dsz30,(fun h=>st_cells dsz30 rfl rfl h),fbA dze30 (by simp [scalarV,Value.cells]) rfl,fbF Tryz.underlying30 rfl dsz3 rfl,fbF Tryz.underlying30 rfl dsz28 rfl,fbM Tryz.underlying30 dpl30 dze30 (by simp [scalarV,Value.cells]) rfl⟩
theorem fb32:FbL Tryz.prog 32 4∧FbSt4 Tryz.prog 32∧FbA Tryz.prog 32 [.int .i64 0,.int .i64 0,.int .i64 0,.str ⟨#[]⟩]∧FbF Tryz.prog 32 0 0∧FbF Tryz.prog 32 1 1∧FbF Tryz.prog 32 2 2∧FbF Tryz.prog 32 3 3∧FbM Tryz.prog 32 [(0,1),(1,1),(2,1),(3,1)] [.int .i64 0,.int .i64 0,.int .i64 0,.str ⟨#[]⟩]:=⟨ld_agg dag32 dsz32,(fun h=>st_cells dsz32 rfl rfl h),fbA dze32 (by simp [scalarV,Value.cells]) rfl,fbF Tryz.underlying32 rfl dsz2 rfl,fbF Tryz.underlying32 rfl dsz2 rfl,fbF Tryz.underlying32 rfl dsz2 rfl,fbF Tryz.underlying32 rfl dsz9 rfl,fbM Tryz.underlying32 dpl32 dze32 (by simp [scalarV,Value.cells]) rfl⟩
theorem fb33:FbS Tryz.prog 33 141 5∧FbE Tryz.prog 33 5 72 [.str ⟨#[]⟩,.int .i64 0,.int .i64 0,.str ⟨#[]⟩,.nils]:=⟨fbS Tryz.underlying33 dag33 dsz33 dze33 dsz141,fbE del33 Tryz.underlying33 dsz141 dze141 (by simp [scalarV,Value.cells]) rfl rfl⟩
theorem fb35:FbL Tryz.prog 35 6∧FbSt6 Tryz.prog 35∧FbA Tryz.prog 35 [.str ⟨#[]⟩,.int .i64 0,.int .i64 0,.int .i64 0,.str ⟨#[]⟩,.nils]∧FbF Tryz.prog 35 0 0∧FbF Tryz.prog 35 1 1∧FbF Tryz.prog 35 2 5∧FbM Tryz.prog 35 [(0,1),(1,4),(5,1)] [.str ⟨#[]⟩,.int .i64 0,.int .i64 0,.int .i64 0,.str ⟨#[]⟩,.nils]:=⟨ld_agg dag35 dsz35,(fun h=>st_cells dsz35 rfl rfl h),fbA dze35 (by simp [scalarV,Value.cells]) rfl,fbF Tryz.underlying35 rfl dsz9 rfl,fbF Tryz.underlying35 rfl dsz32 rfl,fbF Tryz.underlying35 rfl dsz33 rfl,fbM Tryz.underlying35 dpl35 dze35 (by simp [scalarV,Value.cells]) rfl⟩
theorem fb41:FbL Tryz.prog 41 4∧FbSt4 Tryz.prog 41∧FbA Tryz.prog 41 [.int .i64 0,.int .i64 0,.int .i64 0,.str ⟨#[]⟩]∧FbF Tryz.prog 41 0 0∧FbF Tryz.prog 41 1 1∧FbF Tryz.prog 41 2 2∧FbF Tryz.prog 41 3 3∧FbM Tryz.prog 41 [(0,1),(1,1),(2,1),(3,1)] [.int .i64 0,.int .i64 0,.int .i64 0,.str ⟨#[]⟩]:=⟨ld_agg dag41 dsz41,(fun h=>st_cells dsz41 rfl rfl h),fbA dze41 (by simp [scalarV,Value.cells]) rfl,fbF Tryz.underlying41 rfl dsz2 rfl,fbF Tryz.underlying41 rfl dsz2 rfl,fbF Tryz.underlying41 rfl dsz2 rfl,fbF Tryz.underlying41 rfl dsz9 rfl,fbM Tryz.underlying41 dpl41 dze41 (by simp [scalarV,Value.cells]) rfl⟩
theorem fb42:FbS Tryz.prog 42 120 5∧FbE Tryz.prog 42 5 72 [.str ⟨#[]⟩,.int .i64 0,.int .i64 0,.str ⟨#[]⟩,.nils]:=⟨fbS Tryz.underlying42 dag42 dsz42 dze42 dsz120,fbE del42 Tryz.underlying42 dsz120 dze120 (by simp [scalarV,Value.cells]) rfl rfl⟩
theorem fb44:FbL Tryz.prog 44 6∧FbSt6 Tryz.prog 44∧FbA Tryz.prog 44 [.str ⟨#[]⟩,.int .i64 0,.int .i64 0,.int .i64 0,.str ⟨#[]⟩,.nils]∧FbF Tryz.prog 44 0 0∧FbF Tryz.prog 44 1 1∧FbF Tryz.prog 44 2 5∧FbM Tryz.prog 44 [(0,1),(1,4),(5,1)] [.str ⟨#[]⟩,.int .i64 0,.int .i64 0,.int .i64 0,.str ⟨#[]⟩,.nils]:=⟨ld_agg dag44 dsz44,(fun h=>st_cells dsz44 rfl rfl h),fbA dze44 (by simp [scalarV,Value.cells]) rfl,fbF Tryz.underlying44 rfl dsz9 rfl,fbF Tryz.underlying44 rfl dsz41 rfl,fbF Tryz.underlying44 rfl dsz42 rfl,fbM Tryz.underlying44 dpl44 dze44 (by simp [scalarV,Value.cells]) rfl⟩
theorem fb51:FbS Tryz.prog 51 9 1∧FbE Tryz.prog 51 1 16 [.str ⟨#[]⟩]:=⟨fbS Tryz.underlying51 dag51 dsz51 dze51 dsz9,fbE del51 Tryz.underlying51 dsz9 dze9 (by simp [scalarV,Value.cells]) rfl rfl⟩
theorem fb62:FbS Tryz.prog 62 35 6∧FbE Tryz.prog 62 6 80 [.str ⟨#[]⟩,.int .i64 0,.int .i64 0,.int .i64 0,.str ⟨#[]⟩,.nils]:=⟨fbS Tryz.underlying62 dag62 dsz62 dze62 dsz35,fbE del62 Tryz.underlying62 dsz35 dze35 (by simp [scalarV,Value.cells]) rfl rfl⟩
theorem fb70:FbS Tryz.prog 70 80 10∧FbE Tryz.prog 70 10 120 [.int .i64 0,.str ⟨#[]⟩,.str ⟨#[]⟩,.int .i64 0,.int .i64 0,.int .i64 0,.str ⟨#[]⟩,.nils,.int .i64 0,.int .i64 0]:=⟨fbS Tryz.underlying70 dag70 dsz70 dze70 dsz80,fbE del70 Tryz.underlying70 dsz80 dze80 (by simp [scalarV,Value.cells]) rfl rfl⟩
theorem fb71:FbP Tryz.prog 71 130:=fbP Tryz.underlying71 dag71 dsz71 dze71
theorem fb74:FbS Tryz.prog 74 30 2∧FbE Tryz.prog 74 2 32 [.int .i64 0,.nils]:=⟨fbS Tryz.underlying74 dag74 dsz74 dze74 dsz30,fbE del74 Tryz.underlying74 dsz30 dze30 (by simp [scalarV,Value.cells]) rfl rfl⟩
theorem fb76:FbL Tryz.prog 76 3∧FbSt3 Tryz.prog 76∧FbA Tryz.prog 76 [.str ⟨#[]⟩,.nils,.nils]∧FbF Tryz.prog 76 0 0∧FbF Tryz.prog 76 1 1∧FbF Tryz.prog 76 2 2∧FbM Tryz.prog 76 [(0,1),(1,1),(2,1)] [.str ⟨#[]⟩,.nils,.nils]:=⟨ld_agg dag76 dsz76,(fun h=>st_cells dsz76 rfl rfl h),fbA dze76 (by simp [scalarV,Value.cells]) rfl,fbF Tryz.underlying76 rfl dsz9 rfl,fbF Tryz.underlying76 rfl dsz51 rfl,fbF Tryz.underlying76 rfl dsz74 rfl,fbM Tryz.underlying76 dpl76 dze76 (by simp [scalarV,Value.cells]) rfl⟩
theorem fb80:FbL Tryz.prog 80 10∧FbSt10 Tryz.prog 80∧FbA Tryz.prog 80 [.int .i64 0,.str ⟨#[]⟩,.str ⟨#[]⟩,.int .i64 0,.int .i64 0,.int .i64 0,.str ⟨#[]⟩,.nils,.int .i64 0,.int .i64 0]∧FbF Tryz.prog 80 0 0∧FbF Tryz.prog 80 1 1∧FbF Tryz.prog 80 2 2∧FbF Tryz.prog 80 3 8∧FbF Tryz.prog 80 4 9∧FbM Tryz.prog 80 [(0,1),(1,1),(2,6),(8,1),(9,1)] [.int .i64 0,.str ⟨#[]⟩,.str ⟨#[]⟩,.int .i64 0,.int .i64 0,.int .i64 0,.str ⟨#[]⟩,.nils,.int .i64 0,.int .i64 0]:=⟨ld_agg dag80 dsz80,(fun h=>st_cells dsz80 rfl rfl h),fbA dze80 (by simp [scalarV,Value.cells]) rfl,fbF Tryz.underlying80 rfl dsz3 rfl,fbF Tryz.underlying80 rfl dsz9 rfl,fbF Tryz.underlying80 rfl dsz35 rfl,fbF Tryz.underlying80 rfl dsz2 rfl,fbF Tryz.underlying80 rfl dsz2 rfl,fbM Tryz.underlying80 dpl80 dze80 (by simp [scalarV,Value.cells]) rfl⟩
theorem fb99:FbP Tryz.prog 99 138:=fbP Tryz.underlying99 dag99 dsz99 dze99
theorem fb102:FbL Tryz.prog 102 2∧FbSt2 Tryz.prog 102∧FbA Tryz.prog 102 [.int .i64 0,.nilp]∧FbF Tryz.prog 102 0 0∧FbF Tryz.prog 102 1 1∧FbM Tryz.prog 102 [(0,1),(1,1)] [.int .i64 0,.nilp]:=⟨ld_agg dag102 dsz102,(fun h=>st_cells dsz102 rfl rfl h),fbA dze102 (by simp [scalarV,Value.cells]) rfl,fbF Tryz.underlying102 rfl dsz3 rfl,fbF Tryz.underlying102 rfl dsz99 rfl,fbM Tryz.underlying102 dpl102 dze102 (by simp [scalarV,Value.cells]) rfl⟩
theorem fb116:FbS Tryz.prog 116 2 1∧FbE Tryz.prog 116 1 8 [.int .i64 0]:=⟨fbS Tryz.underlying116 dag116 dsz116 dze116 dsz2,fbE del116 Tryz.underlying116 dsz2 dze2 (by simp [scalarV,Value.cells]) rfl rfl⟩
theorem fb118:FbL Tryz.prog 118 4∧FbSt4 Tryz.prog 118∧FbA Tryz.prog 118 [.int .i64 0,.int .i64 0,.str ⟨#[]⟩,.nils]∧FbF Tryz.prog 118 0 0∧FbF Tryz.prog 118 1 1∧FbF Tryz.prog 118 2 2∧FbF Tryz.prog 118 3 3∧FbM Tryz.prog 118 [(0,1),(1,1),(2,1),(3,1)] [.int .i64 0,.int .i64 0,.str ⟨#[]⟩,.nils]:=⟨ld_agg dag118 dsz118,(fun h=>st_cells dsz118 rfl rfl h),fbA dze118 (by simp [scalarV,Value.cells]) rfl,fbF Tryz.underlying118 rfl dsz3 rfl,fbF Tryz.underlying118 rfl dsz2 rfl,fbF Tryz.underlying118 rfl dsz9 rfl,fbF Tryz.underlying118 rfl dsz116 rfl,fbM Tryz.underlying118 dpl118 dze118 (by simp [scalarV,Value.cells]) rfl⟩
theorem fb120:FbL Tryz.prog 120 5∧FbSt5 Tryz.prog 120∧FbA Tryz.prog 120 [.str ⟨#[]⟩,.int .i64 0,.int .i64 0,.str ⟨#[]⟩,.nils]∧FbF Tryz.prog 120 0 0∧FbF Tryz.prog 120 1 1∧FbM Tryz.prog 120 [(0,1),(1,4)] [.str ⟨#[]⟩,.int .i64 0,.int .i64 0,.str ⟨#[]⟩,.nils]:=⟨ld_agg dag120 dsz120,(fun h=>st_cells dsz120 rfl rfl h),fbA dze120 (by simp [scalarV,Value.cells]) rfl,fbF Tryz.underlying120 rfl dsz9 rfl,fbF Tryz.underlying120 rfl dsz118 rfl,fbM Tryz.underlying120 dpl120 dze120 (by simp [scalarV,Value.cells]) rfl⟩
theorem fb128:FbS Tryz.prog 128 24 1∧FbE Tryz.prog 128 1 8 [.nilp]:=⟨fbS Tryz.underlying128 dag128 dsz128 dze128 dsz24,fbE del128 Tryz.underlying128 dsz24 dze24 (by simp [scalarV,Value.cells]) rfl rfl⟩
theorem fb130:FbL Tryz.prog 130 3∧FbSt3 Tryz.prog 130∧FbA Tryz.prog 130 [.nils,.nils,.nils]∧FbF Tryz.prog 130 0 0∧FbF Tryz.prog 130 1 1∧FbF Tryz.prog 130 2 2∧FbM Tryz.prog 130 [(0,1),(1,1),(2,1)] [.nils,.nils,.nils]:=⟨ld_agg dag130 dsz130,(fun h=>st_cells dsz130 rfl rfl h),fbA dze130 (by simp [scalarV,Value.cells]) rfl,fbF Tryz.underlying130 rfl dsz51 rfl,fbF Tryz.underlying130 rfl dsz51 rfl,fbF Tryz.underlying130 rfl dsz128 rfl,fbM Tryz.underlying130 dpl130 dze130 (by simp [scalarV,Value.cells]) rfl⟩
theorem fb136:FbS Tryz.prog 136 148 7∧FbE Tryz.prog 136 7 96 [.str ⟨#[]⟩,.str ⟨#[]⟩,.int .i64 0,.int .i64 0,.int .i64 0,.str ⟨#[]⟩,.nils]:=⟨fbS Tryz.underlying136 dag136 dsz136 dze136 dsz148,fbE del136 Tryz.underlying136 dsz148 dze148 (by simp [scalarV,Value.cells]) rfl rfl⟩
theorem fb138:FbL Tryz.prog 138 1∧FbSt1 Tryz.prog 138∧FbA Tryz.prog 138 [.nils]∧FbF Tryz.prog 138 0 0∧FbM Tryz.prog 138 [(0,1)] [.nils]:=⟨ld_agg dag138 dsz138,(fun h=>st_cells dsz138 rfl rfl h),fbA dze138 (by simp [scalarV,Value.cells]) rfl,fbF Tryz.underlying138 rfl dsz136 rfl,fbM Tryz.underlying138 dpl138 dze138 (by simp [scalarV,Value.cells]) rfl⟩
theorem fb139:FbL Tryz.prog 139 4∧FbSt4 Tryz.prog 139∧FbA Tryz.prog 139 [.int .i64 0,.int .i64 0,.str ⟨#[]⟩,.nils]∧FbF Tryz.prog 139 0 0∧FbF Tryz.prog 139 1 1∧FbF Tryz.prog 139 2 2∧FbF Tryz.prog 139 3 3∧FbM Tryz.prog 139 [(0,1),(1,1),(2,1),(3,1)] [.int .i64 0,.int .i64 0,.str ⟨#[]⟩,.nils]:=⟨ld_agg dag139 dsz139,(fun h=>st_cells dsz139 rfl rfl h),fbA dze139 (by simp [scalarV,Value.cells]) rfl,fbF Tryz.underlying139 rfl dsz3 rfl,fbF Tryz.underlying139 rfl dsz2 rfl,fbF Tryz.underlying139 rfl dsz9 rfl,fbF Tryz.underlying139 rfl dsz116 rfl,fbM Tryz.underlying139 dpl139 dze139 (by simp [scalarV,Value.cells]) rfl⟩
theorem fb141:FbL Tryz.prog 141 5∧FbSt5 Tryz.prog 141∧FbA Tryz.prog 141 [.str ⟨#[]⟩,.int .i64 0,.int .i64 0,.str ⟨#[]⟩,.nils]∧FbF Tryz.prog 141 0 0∧FbF Tryz.prog 141 1 1∧FbM Tryz.prog 141 [(0,1),(1,4)] [.str ⟨#[]⟩,.int .i64 0,.int .i64 0,.str ⟨#[]⟩,.nils]:=⟨ld_agg dag141 dsz141,(fun h=>st_cells dsz141 rfl rfl h),fbA dze141 (by simp [scalarV,Value.cells]) rfl,fbF Tryz.underlying141 rfl dsz9 rfl,fbF Tryz.underlying141 rfl dsz139 rfl,fbM Tryz.underlying141 dpl141 dze141 (by simp [scalarV,Value.cells]) rfl⟩
theorem fb143:FbS Tryz.prog 143 3 1∧FbE Tryz.prog 143 1 8 [.int .i64 0]:=⟨fbS Tryz.underlying143 dag143 dsz143 dze143 dsz3,fbE del143 Tryz.underlying143 dsz3 dze3 (by simp [scalarV,Value.cells]) rfl rfl⟩
theorem fb148:FbL Tryz.prog 148 7∧FbSt7 Tryz.prog 148∧FbA Tryz.prog 148 [.str ⟨#[]⟩,.str ⟨#[]⟩,.int .i64 0,.int .i64 0,.int .i64 0,.str ⟨#[]⟩,.nils]∧FbF Tryz.prog 148 0 0∧FbF Tryz.prog 148 1 1∧FbM Tryz.prog 148 [(0,1),(1,6)] [.str ⟨#[]⟩,.str ⟨#[]⟩,.int .i64 0,.int .i64 0,.int .i64 0,.str ⟨#[]⟩,.nils]:=⟨ld_agg dag148 dsz148,(fun h=>st_cells dsz148 rfl rfl h),fbA dze148 (by simp [scalarV,Value.cells]) rfl,fbF Tryz.underlying148 rfl dsz9 rfl,fbF Tryz.underlying148 rfl dsz35 rfl,fbM Tryz.underlying148 dpl148 dze148 (by simp [scalarV,Value.cells]) rfl⟩
theorem fb181:FbI Tryz.prog 181 .u64∧FbC Tryz.prog 2 181 .u64∧FbC Tryz.prog 3 181 .u64∧FbC Tryz.prog 5 181 .u64∧FbC Tryz.prog 25 181 .u64∧FbC Tryz.prog 181 181 .u64:=⟨fbI Tryz.underlying181 dag181 dsz181 dze181,conv_int Tryz.underlying2 Tryz.underlying181,conv_int Tryz.underlying3 Tryz.underlying181,conv_int Tryz.underlying5 Tryz.underlying181,conv_int Tryz.underlying25 Tryz.underlying181,conv_int Tryz.underlying181 Tryz.underlying181⟩
theorem c2:FnAt Tryz.prog 2:=⟨_,Tryz.func2,by decide,rfl⟩
theorem c8:FnAt Tryz.prog 8:=⟨_,Tryz.func8,by decide,rfl⟩
theorem c9:FnAt Tryz.prog 9:=⟨_,Tryz.func9,by decide,rfl⟩
theorem c10:FnAt Tryz.prog 10:=⟨_,Tryz.func10,by decide,rfl⟩
theorem c11:FnAt Tryz.prog 11:=⟨_,Tryz.func11,by decide,rfl⟩
theorem c12:FnAt Tryz.prog 12:=⟨_,Tryz.func12,by decide,rfl⟩
theorem c13:FnAt Tryz.prog 13:=⟨_,Tryz.func13,by decide,rfl⟩
theorem c15:FnAt Tryz.prog 15:=⟨_,Tryz.func15,by decide,rfl⟩
theorem c16:FnAt Tryz.prog 16:=⟨_,Tryz.func16,by decide,rfl⟩
theorem c17:FnAt Tryz.prog 17:=⟨_,Tryz.func17,by decide,rfl⟩
theorem c18:FnAt Tryz.prog 18:=⟨_,Tryz.func18,by decide,rfl⟩
theorem c19:FnAt Tryz.prog 19:=⟨_,Tryz.func19,by decide,rfl⟩
theorem c21:FnAt Tryz.prog 21:=⟨_,Tryz.func21,by decide,rfl⟩
theorem c22:FnAt Tryz.prog 22:=⟨_,Tryz.func22,by decide,rfl⟩
theorem c24:FnAt Tryz.prog 24:=⟨_,Tryz.func24,by decide,rfl⟩
theorem c25:FnAt Tryz.prog 25:=⟨_,Tryz.func25,by decide,rfl⟩
theorem c26:FnAt Tryz.prog 26:=⟨_,Tryz.func26,by decide,rfl⟩
theorem c28:FnAt Tryz.prog 28:=⟨_,Tryz.func28,by decide,rfl⟩
theorem c29:FnAt Tryz.prog 29:=⟨_,Tryz.func29,by decide,rfl⟩
theorem c30:FnAt Tryz.prog 30:=⟨_,Tryz.func30,by decide,rfl⟩
theorem c31:FnAt Tryz.prog 31:=⟨_,Tryz.func31,by decide,rfl⟩
theorem c32:FnAt Tryz.prog 32:=⟨_,Tryz.func32,by decide,rfl⟩
theorem c33:FnAt Tryz.prog 33:=⟨_,Tryz.func33,by decide,rfl⟩
theorem c34:FnAt Tryz.prog 34:=⟨_,Tryz.func34,by decide,rfl⟩
theorem c35:FnAt Tryz.prog 35:=⟨_,Tryz.func35,by decide,rfl⟩
theorem c36:FnAt Tryz.prog 36:=⟨_,Tryz.func36,by decide,rfl⟩
theorem c37:FnAt Tryz.prog 37:=⟨_,Tryz.func37,by decide,rfl⟩
theorem c38:FnAt Tryz.prog 38:=⟨_,Tryz.func38,by decide,rfl⟩
theorem c39:FnAt Tryz.prog 39:=⟨_,Tryz.func39,by decide,rfl⟩
theorem c40:FnAt Tryz.prog 40:=⟨_,Tryz.func40,by decide,rfl⟩
theorem c41:FnAt Tryz.prog 41:=⟨_,Tryz.func41,by decide,rfl⟩
theorem c42:FnAt Tryz.prog 42:=⟨_,Tryz.func42,by decide,rfl⟩
theorem c43:FnAt Tryz.prog 43:=⟨_,Tryz.func43,by decide,rfl⟩
theorem c44:FnAt Tryz.prog 44:=⟨_,Tryz.func44,by decide,rfl⟩
theorem c45:FnAt Tryz.prog 45:=⟨_,Tryz.func45,by decide,rfl⟩
theorem c46:FnAt Tryz.prog 46:=⟨_,Tryz.func46,by decide,rfl⟩
theorem c50:FnAt Tryz.prog 50:=⟨_,Tryz.func50,by decide,rfl⟩
theorem c51:FnAt Tryz.prog 51:=⟨_,Tryz.func51,by decide,rfl⟩
theorem c52:FnAt Tryz.prog 52:=⟨_,Tryz.func52,by decide,rfl⟩
theorem c53:FnAt Tryz.prog 53:=⟨_,Tryz.func53,by decide,rfl⟩
theorem c54:FnAt Tryz.prog 54:=⟨_,Tryz.func54,by decide,rfl⟩
theorem c55:FnAt Tryz.prog 55:=⟨_,Tryz.func55,by decide,rfl⟩
theorem c56:FnAt Tryz.prog 56:=⟨_,Tryz.func56,by decide,rfl⟩
theorem c57:FnAt Tryz.prog 57:=⟨_,Tryz.func57,by decide,rfl⟩
theorem c58:FnAt Tryz.prog 58:=⟨_,Tryz.func58,by decide,rfl⟩
theorem c59:FnAt Tryz.prog 59:=⟨_,Tryz.func59,by decide,rfl⟩
theorem c60:FnAt Tryz.prog 60:=⟨_,Tryz.func60,by decide,rfl⟩
theorem c61:FnAt Tryz.prog 61:=⟨_,Tryz.func61,by decide,rfl⟩
theorem c62:FnAt Tryz.prog 62:=⟨_,Tryz.func62,by decide,rfl⟩
theorem c63:FnAt Tryz.prog 63:=⟨_,Tryz.func63,by decide,rfl⟩
theorem c64:FnAt Tryz.prog 64:=⟨_,Tryz.func64,by decide,rfl⟩
theorem c65:FnAt Tryz.prog 65:=⟨_,Tryz.func65,by decide,rfl⟩
theorem c66:FnAt Tryz.prog 66:=⟨_,Tryz.func66,by decide,rfl⟩
theorem c67:FnAt Tryz.prog 67:=⟨_,Tryz.func67,by decide,rfl⟩
theorem c68:FnAt Tryz.prog 68:=⟨_,Tryz.func68,by decide,rfl⟩
theorem c69:FnAt Tryz.prog 69:=⟨_,Tryz.func69,by decide,rfl⟩
theorem c70:FnAt Tryz.prog 70:=⟨_,Tryz.func70,by decide,rfl⟩
theorem c71:FnAt Tryz.prog 71:=⟨_,Tryz.func71,by decide,rfl⟩
theorem c72:FnAt Tryz.prog 72:=⟨_,Tryz.func72,by decide,rfl⟩
theorem c73:FnAt Tryz.prog 73:=⟨_,Tryz.func73,by decide,rfl⟩
theorem c74:FnAt Tryz.prog 74:=⟨_,Tryz.func74,by decide,rfl⟩
theorem c76:FnAt Tryz.prog 76:=⟨_,Tryz.func76,by decide,rfl⟩
theorem c77:FnAt Tryz.prog 77:=⟨_,Tryz.func77,by decide,rfl⟩
theorem c78:FnAt Tryz.prog 78:=⟨_,Tryz.func78,by decide,rfl⟩
theorem c79:FnAt Tryz.prog 79:=⟨_,Tryz.func79,by decide,rfl⟩
theorem c80:FnAt Tryz.prog 80:=⟨_,Tryz.func80,by decide,rfl⟩
theorem c81:FnAt Tryz.prog 81:=⟨_,Tryz.func81,by decide,rfl⟩
theorem c82:FnAt Tryz.prog 82:=⟨_,Tryz.func82,by decide,rfl⟩
theorem c83:FnAt Tryz.prog 83:=⟨_,Tryz.func83,by decide,rfl⟩
theorem c84:FnAt Tryz.prog 84:=⟨_,Tryz.func84,by decide,rfl⟩
theorem c86:FnAt Tryz.prog 86:=⟨_,Tryz.func86,by decide,rfl⟩
theorem c87:FnAt Tryz.prog 87:=⟨_,Tryz.func87,by decide,rfl⟩
theorem c88:FnAt Tryz.prog 88:=⟨_,Tryz.func88,by decide,rfl⟩
theorem c89:FnAt Tryz.prog 89:=⟨_,Tryz.func89,by decide,rfl⟩
theorem c90:FnAt Tryz.prog 90:=⟨_,Tryz.func90,by decide,rfl⟩
theorem c91:FnAt Tryz.prog 91:=⟨_,Tryz.func91,by decide,rfl⟩
theorem c92:FnAt Tryz.prog 92:=⟨_,Tryz.func92,by decide,rfl⟩
theorem c93:FnAt Tryz.prog 93:=⟨_,Tryz.func93,by decide,rfl⟩
theorem c94:FnAt Tryz.prog 94:=⟨_,Tryz.func94,by decide,rfl⟩
theorem c95:FnAt Tryz.prog 95:=⟨_,Tryz.func95,by decide,rfl⟩
theorem c96:FnAt Tryz.prog 96:=⟨_,Tryz.func96,by decide,rfl⟩
theorem c97:FnAt Tryz.prog 97:=⟨_,Tryz.func97,by decide,rfl⟩
theorem c98:FnAt Tryz.prog 98:=⟨_,Tryz.func98,by decide,rfl⟩
theorem c99:FnAt Tryz.prog 99:=⟨_,Tryz.func99,by decide,rfl⟩
theorem c100:FnAt Tryz.prog 100:=⟨_,Tryz.func100,by decide,rfl⟩
theorem c101:FnAt Tryz.prog 101:=⟨_,Tryz.func101,by decide,rfl⟩
theorem c102:FnAt Tryz.prog 102:=⟨_,Tryz.func102,by decide,rfl⟩
theorem c103:FnAt Tryz.prog 103:=⟨_,Tryz.func103,by decide,rfl⟩
theorem c105:FnAt Tryz.prog 105:=⟨_,Tryz.func105,by decide,rfl⟩
theorem c106:FnAt Tryz.prog 106:=⟨_,Tryz.func106,by decide,rfl⟩
theorem c107:FnAt Tryz.prog 107:=⟨_,Tryz.func107,by decide,rfl⟩
theorem c108:FnAt Tryz.prog 108:=⟨_,Tryz.func108,by decide,rfl⟩
theorem c109:FnAt Tryz.prog 109:=⟨_,Tryz.func109,by decide,rfl⟩
theorem c110:FnAt Tryz.prog 110:=⟨_,Tryz.func110,by decide,rfl⟩
theorem c111:FnAt Tryz.prog 111:=⟨_,Tryz.func111,by decide,rfl⟩
theorem c112:FnAt Tryz.prog 112:=⟨_,Tryz.func112,by decide,rfl⟩
theorem c113:FnAt Tryz.prog 113:=⟨_,Tryz.func113,by decide,rfl⟩
theorem c114:FnAt Tryz.prog 114:=⟨_,Tryz.func114,by decide,rfl⟩
theorem c115:FnAt Tryz.prog 115:=⟨_,Tryz.func115,by decide,rfl⟩
theorem c116:FnAt Tryz.prog 116:=⟨_,Tryz.func116,by decide,rfl⟩
theorem c117:FnAt Tryz.prog 117:=⟨_,Tryz.func117,by decide,rfl⟩
theorem c118:FnAt Tryz.prog 118:=⟨_,Tryz.func118,by decide,rfl⟩
theorem c119:FnAt Tryz.prog 119:=⟨_,Tryz.func119,by decide,rfl⟩
theorem c120:FnAt Tryz.prog 120:=⟨_,Tryz.func120,by decide,rfl⟩
theorem c123:FnAt Tryz.prog 123:=⟨_,Tryz.func123,by decide,rfl⟩
theorem c124:FnAt Tryz.prog 124:=⟨_,Tryz.func124,by decide,rfl⟩
theorem c125:FnAt Tryz.prog 125:=⟨_,Tryz.func125,by decide,rfl⟩
theorem c126:FnAt Tryz.prog 126:=⟨_,Tryz.func126,by decide,rfl⟩
theorem c127:FnAt Tryz.prog 127:=⟨_,Tryz.func127,by decide,rfl⟩
theorem c128:FnAt Tryz.prog 128:=⟨_,Tryz.func128,by decide,rfl⟩
theorem c129:FnAt Tryz.prog 129:=⟨_,Tryz.func129,by decide,rfl⟩
theorem c130:FnAt Tryz.prog 130:=⟨_,Tryz.func130,by decide,rfl⟩
theorem c131:FnAt Tryz.prog 131:=⟨_,Tryz.func131,by decide,rfl⟩
theorem c132:FnAt Tryz.prog 132:=⟨_,Tryz.func132,by decide,rfl⟩
theorem c134:FnAt Tryz.prog 134:=⟨_,Tryz.func134,by decide,rfl⟩
theorem c135:FnAt Tryz.prog 135:=⟨_,Tryz.func135,by decide,rfl⟩
theorem c141:FnAt Tryz.prog 141:=⟨_,Tryz.func141,by decide,rfl⟩
theorem c143:FnAt Tryz.prog 143:=⟨_,Tryz.func143,by decide,rfl⟩
end Go.Proofs.DtF
