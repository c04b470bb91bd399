/- What the types of this seat's translation say, a closed fact each; no theorem of a claim. -/
import Derived.Test.YtbllopdcbkeadaaGreatRows
import Derived.Test.YtbllopdcbkeadaaGreatAbcEval2
namespace Go.Proofs.YtbllopdcbkeadaaGreat
open Go.Abs
theorem mixed : Tryz.prog.follows .mixedOrders = true := by kernel_rfl
@[go_sem] theorem lay1 : layT Tryz.prog 1 = some ⟨false, 1⟩ := by kernel_rfl
@[go_sem] theorem ty1 : tyT Tryz.prog 1 = .func := by kernel_rfl
@[go_sem] theorem zero1 : zeroT Tryz.prog 1 = some [.nilfn] := by kernel_rfl
@[go_sem] theorem lay2 : layT Tryz.prog 2 = some ⟨false, 1⟩ := by kernel_rfl
@[go_sem] theorem ty2 : tyT Tryz.prog 2 = .int .i64 := by kernel_rfl
@[go_sem] theorem zero2 : zeroT Tryz.prog 2 = some [.int .i64 0] := by kernel_rfl
@[go_sem] theorem lay3 : layT Tryz.prog 3 = some ⟨false, 1⟩ := by kernel_rfl
@[go_sem] theorem ty3 : tyT Tryz.prog 3 = .int .i64 := by kernel_rfl
@[go_sem] theorem zero3 : zeroT Tryz.prog 3 = some [.int .i64 0] := by kernel_rfl
@[go_sem] theorem lay4 : layT Tryz.prog 4 = some ⟨false, 1⟩ := by kernel_rfl
@[go_sem] theorem ty4 : tyT Tryz.prog 4 = .bool := by kernel_rfl
@[go_sem] theorem zero4 : zeroT Tryz.prog 4 = some [.bool false] := by kernel_rfl
@[go_sem] theorem lay5 : layT Tryz.prog 5 = some ⟨false, 1⟩ := by kernel_rfl
@[go_sem] theorem ty5 : tyT Tryz.prog 5 = .int .u8 := by kernel_rfl
@[go_sem] theorem zero5 : zeroT Tryz.prog 5 = some [.int .u8 0] := by kernel_rfl
@[go_sem] theorem lay6 : layT Tryz.prog 6 = some ⟨false, 1⟩ := by kernel_rfl
@[go_sem] theorem ty6 : tyT Tryz.prog 6 = .int .u8 := by kernel_rfl
@[go_sem] theorem zero6 : zeroT Tryz.prog 6 = some [.int .u8 0] := by kernel_rfl
@[go_sem] theorem lay7 : layT Tryz.prog 7 = some ⟨true, 4⟩ := by kernel_rfl
@[go_sem] theorem ty7 : tyT Tryz.prog 7 = .struct [⟨0, 1, false⟩, ⟨1, 1, false⟩, ⟨2, 1, false⟩, ⟨3, 1, false⟩] := by kernel_rfl
@[go_sem] theorem zero7 : zeroT Tryz.prog 7 = some [.int .i64 0, .int .i64 0, .bool false, .int .u8 0] := by kernel_rfl
@[go_sem] theorem lay8 : layT Tryz.prog 8 = some ⟨true, 4⟩ := by kernel_rfl
@[go_sem] theorem ty8 : tyT Tryz.prog 8 = .struct [⟨0, 1, false⟩, ⟨1, 1, false⟩, ⟨2, 1, false⟩, ⟨3, 1, false⟩] := by kernel_rfl
@[go_sem] theorem zero8 : zeroT Tryz.prog 8 = some [.int .i64 0, .int .i64 0, .bool false, .int .u8 0] := by kernel_rfl
@[go_sem] theorem lay9 : layT Tryz.prog 9 = some ⟨false, 1⟩ := by kernel_rfl
@[go_sem] theorem ty9 : tyT Tryz.prog 9 = .str := by kernel_rfl
@[go_sem] theorem zero9 : zeroT Tryz.prog 9 = some [.str ⟨#[]⟩] := by kernel_rfl
@[go_sem] theorem lay10 : layT Tryz.prog 10 = some ⟨false, 1⟩ := by kernel_rfl
@[go_sem] theorem ty10 : tyT Tryz.prog 10 = .str := by kernel_rfl
@[go_sem] theorem zero10 : zeroT Tryz.prog 10 = some [.str ⟨#[]⟩] := by kernel_rfl
@[go_sem] theorem lay11 : layT Tryz.prog 11 = some ⟨false, 1⟩ := by kernel_rfl
@[go_sem] theorem ty11 : tyT Tryz.prog 11 = .str := by kernel_rfl
@[go_sem] theorem zero11 : zeroT Tryz.prog 11 = some [.str ⟨#[]⟩] := by kernel_rfl
@[go_sem] theorem lay12 : layT Tryz.prog 12 = some ⟨false, 1⟩ := by kernel_rfl
@[go_sem] theorem ty12 : tyT Tryz.prog 12 = .int .u64 := by kernel_rfl
@[go_sem] theorem zero12 : zeroT Tryz.prog 12 = some [.int .u64 0] := by kernel_rfl
@[go_sem] theorem lay13 : layT Tryz.prog 13 = some ⟨true, 2⟩ := by kernel_rfl
@[go_sem] theorem ty13 : tyT Tryz.prog 13 = .struct [⟨0, 1, false⟩, ⟨1, 1, false⟩] := by kernel_rfl
@[go_sem] theorem zero13 : zeroT Tryz.prog 13 = some [.str ⟨#[]⟩, .int .u64 0] := by kernel_rfl
@[go_sem] theorem lay14 : layT Tryz.prog 14 = some ⟨true, 2⟩ := by kernel_rfl
@[go_sem] theorem ty14 : tyT Tryz.prog 14 = .struct [⟨0, 1, false⟩, ⟨1, 1, false⟩] := by kernel_rfl
@[go_sem] theorem zero14 : zeroT Tryz.prog 14 = some [.str ⟨#[]⟩, .int .u64 0] := by kernel_rfl
@[go_sem] theorem lay15 : layT Tryz.prog 15 = some ⟨false, 1⟩ := by kernel_rfl
@[go_sem] theorem ty15 : tyT Tryz.prog 15 = .ptr := by kernel_rfl
@[go_sem] theorem zero15 : zeroT Tryz.prog 15 = some [.nilp] := by kernel_rfl
@[go_sem] theorem lay16 : layT Tryz.prog 16 = some ⟨false, 1⟩ := by kernel_rfl
@[go_sem] theorem ty16 : tyT Tryz.prog 16 = .ptr := by kernel_rfl
@[go_sem] theorem zero16 : zeroT Tryz.prog 16 = some [.nilp] := by kernel_rfl
@[go_sem] theorem lay17 : layT Tryz.prog 17 = some ⟨false, 1⟩ := by kernel_rfl
@[go_sem] theorem ty17 : tyT Tryz.prog 17 = .ptr := by kernel_rfl
@[go_sem] theorem zero17 : zeroT Tryz.prog 17 = some [.nilp] := by kernel_rfl
@[go_sem] theorem lay18 : layT Tryz.prog 18 = some ⟨true, 1⟩ := by kernel_rfl
@[go_sem] theorem ty18 : tyT Tryz.prog 18 = .struct [⟨0, 1, false⟩] := by kernel_rfl
@[go_sem] theorem zero18 : zeroT Tryz.prog 18 = some [.nilp] := by kernel_rfl
@[go_sem] theorem lay19 : layT Tryz.prog 19 = some ⟨true, 1⟩ := by kernel_rfl
@[go_sem] theorem ty19 : tyT Tryz.prog 19 = .struct [⟨0, 1, false⟩] := by kernel_rfl
@[go_sem] theorem zero19 : zeroT Tryz.prog 19 = some [.nilp] := by kernel_rfl
@[go_sem] theorem lay21 : layT Tryz.prog 21 = some ⟨false, 1⟩ := by kernel_rfl
@[go_sem] theorem ty21 : tyT Tryz.prog 21 = .int .i32 := by kernel_rfl
@[go_sem] theorem zero21 : zeroT Tryz.prog 21 = some [.int .i32 0] := by kernel_rfl
@[go_sem] theorem lay22 : layT Tryz.prog 22 = some ⟨true, 3⟩ := by kernel_rfl
@[go_sem] theorem ty22 : tyT Tryz.prog 22 = .struct [⟨0, 1, false⟩, ⟨1, 1, false⟩, ⟨2, 1, false⟩] := by kernel_rfl
@[go_sem] theorem zero22 : zeroT Tryz.prog 22 = some [.int .i64 0, .int .i64 0, .int .i64 0] := by kernel_rfl
@[go_sem] theorem lvs22 : leavesT Tryz.prog 9 22 = some [.int, .int, .int] := by kernel_rfl
@[go_sem] theorem isAgg22 : isAggT Tryz.prog 22 = true := by kernel_rfl
@[go_sem] theorem lay23 : layT Tryz.prog 23 = some ⟨true, 3⟩ := by kernel_rfl
@[go_sem] theorem ty23 : tyT Tryz.prog 23 = .struct [⟨0, 1, false⟩, ⟨1, 1, false⟩, ⟨2, 1, false⟩] := by kernel_rfl
@[go_sem] theorem zero23 : zeroT Tryz.prog 23 = some [.int .i64 0, .int .i64 0, .int .i64 0] := by kernel_rfl
@[go_sem] theorem lvs23 : leavesT Tryz.prog 9 23 = some [.int, .int, .int] := by kernel_rfl
@[go_sem] theorem isAgg23 : isAggT Tryz.prog 23 = true := by kernel_rfl
@[go_sem] theorem lay24 : layT Tryz.prog 24 = some ⟨false, 1⟩ := by kernel_rfl
@[go_sem] theorem ty24 : tyT Tryz.prog 24 = .slice 3 24 true := by kernel_rfl
@[go_sem] theorem zero24 : zeroT Tryz.prog 24 = some [.nil] := by kernel_rfl
@[go_sem] theorem zel24 : zeroElemT Tryz.prog 24 = some [.int .i64 0, .int .i64 0, .int .i64 0] := by kernel_rfl
@[go_sem] theorem lay25 : layT Tryz.prog 25 = some ⟨false, 1⟩ := by kernel_rfl
@[go_sem] theorem ty25 : tyT Tryz.prog 25 = .slice 12 96 true := by kernel_rfl
@[go_sem] theorem zero25 : zeroT Tryz.prog 25 = some [.nil] := by kernel_rfl
@[go_sem] theorem zel25 : zeroElemT Tryz.prog 25 = some [.int .i64 0, .int .i64 0, .int .i64 0, .int .i64 0, .int .i64 0, .int .i64 0, .int .i64 0, .int .i64 0, .int .i64 0, .int .i64 0, .int .i64 0, .int .i64 0] := by kernel_rfl
@[go_sem] theorem lay26 : layT Tryz.prog 26 = some ⟨false, 1⟩ := by kernel_rfl
@[go_sem] theorem ty26 : tyT Tryz.prog 26 = .slice 4 32 true := by kernel_rfl
@[go_sem] theorem zero26 : zeroT Tryz.prog 26 = some [.nil] := by kernel_rfl
@[go_sem] theorem zel26 : zeroElemT Tryz.prog 26 = some [.int .i64 0, .int .i64 0, .int .i64 0, .int .i64 0] := by kernel_rfl
@[go_sem] theorem lay27 : layT Tryz.prog 27 = some ⟨true, 3⟩ := by kernel_rfl
@[go_sem] theorem ty27 : tyT Tryz.prog 27 = .struct [⟨0, 1, false⟩, ⟨1, 1, false⟩, ⟨2, 1, false⟩] := by kernel_rfl
@[go_sem] theorem zero27 : zeroT Tryz.prog 27 = some [.nil, .nil, .nil] := by kernel_rfl
@[go_sem] theorem lay28 : layT Tryz.prog 28 = some ⟨true, 3⟩ := by kernel_rfl
@[go_sem] theorem ty28 : tyT Tryz.prog 28 = .struct [⟨0, 1, false⟩, ⟨1, 1, false⟩, ⟨2, 1, false⟩] := by kernel_rfl
@[go_sem] theorem zero28 : zeroT Tryz.prog 28 = some [.nil, .nil, .nil] := by kernel_rfl
@[go_sem] theorem lay29 : layT Tryz.prog 29 = some ⟨false, 1⟩ := by kernel_rfl
@[go_sem] theorem ty29 : tyT Tryz.prog 29 = .slice 7 56 true := by kernel_rfl
@[go_sem] theorem zero29 : zeroT Tryz.prog 29 = some [.nil] := by kernel_rfl
@[go_sem] theorem zel29 : zeroElemT Tryz.prog 29 = some [.int .i64 0, .int .i64 0, .int .i64 0, .int .i64 0, .int .i64 0, .int .i64 0, .bool false] := by kernel_rfl
@[go_sem] theorem lay30 : layT Tryz.prog 30 = some ⟨false, 1⟩ := by kernel_rfl
@[go_sem] theorem ty30 : tyT Tryz.prog 30 = .slice 4 32 true := by kernel_rfl
@[go_sem] theorem zero30 : zeroT Tryz.prog 30 = some [.nil] := by kernel_rfl
@[go_sem] theorem zel30 : zeroElemT Tryz.prog 30 = some [.int .i64 0, .int .i64 0, .int .i64 0, .int .i64 0] := by kernel_rfl
@[go_sem] theorem lay31 : layT Tryz.prog 31 = some ⟨true, 3⟩ := by kernel_rfl
@[go_sem] theorem ty31 : tyT Tryz.prog 31 = .struct [⟨0, 1, false⟩, ⟨1, 1, false⟩, ⟨2, 1, false⟩] := by kernel_rfl
@[go_sem] theorem zero31 : zeroT Tryz.prog 31 = some [.int .i64 0, .nil, .nil] := by kernel_rfl
@[go_sem] theorem lay32 : layT Tryz.prog 32 = some ⟨true, 3⟩ := by kernel_rfl
@[go_sem] theorem ty32 : tyT Tryz.prog 32 = .struct [⟨0, 1, false⟩, ⟨1, 1, false⟩, ⟨2, 1, false⟩] := by kernel_rfl
@[go_sem] theorem zero32 : zeroT Tryz.prog 32 = some [.int .i64 0, .nil, .nil] := by kernel_rfl
@[go_sem] theorem lay33 : layT Tryz.prog 33 = some ⟨false, 1⟩ := by kernel_rfl
@[go_sem] theorem ty33 : tyT Tryz.prog 33 = .slice 4 32 true := by kernel_rfl
@[go_sem] theorem zero33 : zeroT Tryz.prog 33 = some [.nil] := by kernel_rfl
@[go_sem] theorem zel33 : zeroElemT Tryz.prog 33 = some [.int .i64 0, .int .i64 0, .int .i64 0, .int .i64 0] := by kernel_rfl
@[go_sem] theorem lay34 : layT Tryz.prog 34 = some ⟨true, 2⟩ := by kernel_rfl
@[go_sem] theorem ty34 : tyT Tryz.prog 34 = .struct [⟨0, 1, false⟩, ⟨1, 1, false⟩] := by kernel_rfl
@[go_sem] theorem zero34 : zeroT Tryz.prog 34 = some [.int .i64 0, .nil] := by kernel_rfl
@[go_sem] theorem lay35 : layT Tryz.prog 35 = some ⟨true, 2⟩ := by kernel_rfl
@[go_sem] theorem ty35 : tyT Tryz.prog 35 = .struct [⟨0, 1, false⟩, ⟨1, 1, false⟩] := by kernel_rfl
@[go_sem] theorem zero35 : zeroT Tryz.prog 35 = some [.int .i64 0, .nil] := by kernel_rfl
@[go_sem] theorem lay36 : layT Tryz.prog 36 = some ⟨false, 1⟩ := by kernel_rfl
@[go_sem] theorem ty36 : tyT Tryz.prog 36 = .slice 3 24 true := by kernel_rfl
@[go_sem] theorem zero36 : zeroT Tryz.prog 36 = some [.nil] := by kernel_rfl
@[go_sem] theorem zel36 : zeroElemT Tryz.prog 36 = some [.int .i64 0, .int .i64 0, .int .i64 0] := by kernel_rfl
@[go_sem] theorem lay37 : layT Tryz.prog 37 = some ⟨false, 1⟩ := by kernel_rfl
@[go_sem] theorem ty37 : tyT Tryz.prog 37 = .slice 4 32 true := by kernel_rfl
@[go_sem] theorem zero37 : zeroT Tryz.prog 37 = some [.nil] := by kernel_rfl
@[go_sem] theorem zel37 : zeroElemT Tryz.prog 37 = some [.int .i64 0, .int .i64 0, .int .i64 0, .int .i64 0] := by kernel_rfl
@[go_sem] theorem lay38 : layT Tryz.prog 38 = some ⟨false, 1⟩ := by kernel_rfl
@[go_sem] theorem ty38 : tyT Tryz.prog 38 = .slice 5 40 true := by kernel_rfl
@[go_sem] theorem zero38 : zeroT Tryz.prog 38 = some [.nil] := by kernel_rfl
@[go_sem] theorem zel38 : zeroElemT Tryz.prog 38 = some [.int .i64 0, .int .i64 0, .int .i64 0, .int .i64 0, .int .i64 0] := by kernel_rfl
@[go_sem] theorem lay39 : layT Tryz.prog 39 = some ⟨false, 1⟩ := by kernel_rfl
@[go_sem] theorem ty39 : tyT Tryz.prog 39 = .slice 7 88 true := by kernel_rfl
@[go_sem] theorem zero39 : zeroT Tryz.prog 39 = some [.nil] := by kernel_rfl
@[go_sem] theorem zel39 : zeroElemT Tryz.prog 39 = some [.int .i64 0, .int .i64 0, .int .i64 0, .int .i64 0, .int .i64 0, .nil, .nil] := by kernel_rfl
@[go_sem] theorem lay40 : layT Tryz.prog 40 = some ⟨true, 15⟩ := by kernel_rfl
@[go_sem] theorem ty40 : tyT Tryz.prog 40 = .struct [⟨0, 3, true⟩, ⟨3, 3, true⟩, ⟨6, 3, true⟩, ⟨9, 2, true⟩, ⟨11, 1, false⟩, ⟨12, 1, false⟩, ⟨13, 1, false⟩, ⟨14, 1, false⟩] := by kernel_rfl
@[go_sem] theorem zero40 : zeroT Tryz.prog 40 = some [.int .i64 0, .int .i64 0, .int .i64 0, .nil, .nil, .nil, .int .i64 0, .nil, .nil, .int .i64 0, .nil, .nil, .nil, .nil, .nil] := by kernel_rfl
@[go_sem] theorem lay41 : layT Tryz.prog 41 = some ⟨true, 15⟩ := by kernel_rfl
@[go_sem] theorem ty41 : tyT Tryz.prog 41 = .struct [⟨0, 3, true⟩, ⟨3, 3, true⟩, ⟨6, 3, true⟩, ⟨9, 2, true⟩, ⟨11, 1, false⟩, ⟨12, 1, false⟩, ⟨13, 1, false⟩, ⟨14, 1, false⟩] := by kernel_rfl
@[go_sem] theorem zero41 : zeroT Tryz.prog 41 = some [.int .i64 0, .int .i64 0, .int .i64 0, .nil, .nil, .nil, .int .i64 0, .nil, .nil, .int .i64 0, .nil, .nil, .nil, .nil, .nil] := by kernel_rfl
@[go_sem] theorem lay42 : layT Tryz.prog 42 = some ⟨false, 1⟩ := by kernel_rfl
@[go_sem] theorem ty42 : tyT Tryz.prog 42 = .func := by kernel_rfl
@[go_sem] theorem zero42 : zeroT Tryz.prog 42 = some [.nilfn] := by kernel_rfl
@[go_sem] theorem lay43 : layT Tryz.prog 43 = some ⟨false, 1⟩ := by kernel_rfl
@[go_sem] theorem ty43 : tyT Tryz.prog 43 = .func := by kernel_rfl
@[go_sem] theorem zero43 : zeroT Tryz.prog 43 = some [.nilfn] := by kernel_rfl
@[go_sem] theorem lay44 : layT Tryz.prog 44 = some ⟨false, 1⟩ := by kernel_rfl
@[go_sem] theorem ty44 : tyT Tryz.prog 44 = .int .i64 := by kernel_rfl
@[go_sem] theorem zero44 : zeroT Tryz.prog 44 = some [.int .i64 0] := by kernel_rfl
@[go_sem] theorem lay46 : layT Tryz.prog 46 = some ⟨false, 1⟩ := by kernel_rfl
@[go_sem] theorem ty46 : tyT Tryz.prog 46 = .func := by kernel_rfl
@[go_sem] theorem zero46 : zeroT Tryz.prog 46 = some [.nilfn] := by kernel_rfl
@[go_sem] theorem lay47 : layT Tryz.prog 47 = some ⟨false, 1⟩ := by kernel_rfl
@[go_sem] theorem ty47 : tyT Tryz.prog 47 = .func := by kernel_rfl
@[go_sem] theorem zero47 : zeroT Tryz.prog 47 = some [.nilfn] := by kernel_rfl
@[go_sem] theorem lay48 : layT Tryz.prog 48 = some ⟨false, 1⟩ := by kernel_rfl
@[go_sem] theorem ty48 : tyT Tryz.prog 48 = .func := by kernel_rfl
@[go_sem] theorem zero48 : zeroT Tryz.prog 48 = some [.nilfn] := by kernel_rfl
@[go_sem] theorem lay49 : layT Tryz.prog 49 = some ⟨false, 1⟩ := by kernel_rfl
@[go_sem] theorem ty49 : tyT Tryz.prog 49 = .func := by kernel_rfl
@[go_sem] theorem zero49 : zeroT Tryz.prog 49 = some [.nilfn] := by kernel_rfl
@[go_sem] theorem lay50 : layT Tryz.prog 50 = some ⟨false, 1⟩ := by kernel_rfl
@[go_sem] theorem ty50 : tyT Tryz.prog 50 = .func := by kernel_rfl
@[go_sem] theorem zero50 : zeroT Tryz.prog 50 = some [.nilfn] := by kernel_rfl
@[go_sem] theorem lay51 : layT Tryz.prog 51 = some ⟨false, 1⟩ := by kernel_rfl
@[go_sem] theorem ty51 : tyT Tryz.prog 51 = .slice 1 8 false := by kernel_rfl
@[go_sem] theorem zero51 : zeroT Tryz.prog 51 = some [.nil] := by kernel_rfl
@[go_sem] theorem zel51 : zeroElemT Tryz.prog 51 = some [.int .i64 0] := by kernel_rfl
@[go_sem] theorem lay52 : layT Tryz.prog 52 = some ⟨false, 1⟩ := by kernel_rfl
@[go_sem] theorem ty52 : tyT Tryz.prog 52 = .func := by kernel_rfl
@[go_sem] theorem zero52 : zeroT Tryz.prog 52 = some [.nilfn] := by kernel_rfl
@[go_sem] theorem lay53 : layT Tryz.prog 53 = some ⟨false, 1⟩ := by kernel_rfl
@[go_sem] theorem ty53 : tyT Tryz.prog 53 = .func := by kernel_rfl
@[go_sem] theorem zero53 : zeroT Tryz.prog 53 = some [.nilfn] := by kernel_rfl
@[go_sem] theorem lay54 : layT Tryz.prog 54 = some ⟨false, 1⟩ := by kernel_rfl
@[go_sem] theorem ty54 : tyT Tryz.prog 54 = .func := by kernel_rfl
@[go_sem] theorem zero54 : zeroT Tryz.prog 54 = some [.nilfn] := by kernel_rfl
@[go_sem] theorem lay55 : layT Tryz.prog 55 = some ⟨false, 1⟩ := by kernel_rfl
@[go_sem] theorem ty55 : tyT Tryz.prog 55 = .func := by kernel_rfl
@[go_sem] theorem zero55 : zeroT Tryz.prog 55 = some [.nilfn] := by kernel_rfl
@[go_sem] theorem lay56 : layT Tryz.prog 56 = some ⟨false, 1⟩ := by kernel_rfl
@[go_sem] theorem ty56 : tyT Tryz.prog 56 = .slice 1 16 false := by kernel_rfl
@[go_sem] theorem zero56 : zeroT Tryz.prog 56 = some [.nil] := by kernel_rfl
@[go_sem] theorem zel56 : zeroElemT Tryz.prog 56 = some [.str ⟨#[]⟩] := by kernel_rfl
@[go_sem] theorem lay57 : layT Tryz.prog 57 = some ⟨false, 1⟩ := by kernel_rfl
@[go_sem] theorem ty57 : tyT Tryz.prog 57 = .func := by kernel_rfl
@[go_sem] theorem zero57 : zeroT Tryz.prog 57 = some [.nilfn] := by kernel_rfl
@[go_sem] theorem lay58 : layT Tryz.prog 58 = some ⟨false, 1⟩ := by kernel_rfl
@[go_sem] theorem ty58 : tyT Tryz.prog 58 = .func := by kernel_rfl
@[go_sem] theorem zero58 : zeroT Tryz.prog 58 = some [.nilfn] := by kernel_rfl
@[go_sem] theorem lay59 : layT Tryz.prog 59 = some ⟨false, 1⟩ := by kernel_rfl
@[go_sem] theorem ty59 : tyT Tryz.prog 59 = .func := by kernel_rfl
@[go_sem] theorem zero59 : zeroT Tryz.prog 59 = some [.nilfn] := by kernel_rfl
@[go_sem] theorem lay60 : layT Tryz.prog 60 = some ⟨false, 1⟩ := by kernel_rfl
@[go_sem] theorem ty60 : tyT Tryz.prog 60 = .func := by kernel_rfl
@[go_sem] theorem zero60 : zeroT Tryz.prog 60 = some [.nilfn] := by kernel_rfl
@[go_sem] theorem lay61 : layT Tryz.prog 61 = some ⟨false, 1⟩ := by kernel_rfl
@[go_sem] theorem ty61 : tyT Tryz.prog 61 = .func := by kernel_rfl
@[go_sem] theorem zero61 : zeroT Tryz.prog 61 = some [.nilfn] := by kernel_rfl
@[go_sem] theorem lay62 : layT Tryz.prog 62 = some ⟨false, 1⟩ := by kernel_rfl
@[go_sem] theorem ty62 : tyT Tryz.prog 62 = .func := by kernel_rfl
@[go_sem] theorem zero62 : zeroT Tryz.prog 62 = some [.nilfn] := by kernel_rfl
@[go_sem] theorem lay63 : layT Tryz.prog 63 = some ⟨false, 1⟩ := by kernel_rfl
@[go_sem] theorem ty63 : tyT Tryz.prog 63 = .func := by kernel_rfl
@[go_sem] theorem zero63 : zeroT Tryz.prog 63 = some [.nilfn] := by kernel_rfl
@[go_sem] theorem lay64 : layT Tryz.prog 64 = some ⟨false, 1⟩ := by kernel_rfl
@[go_sem] theorem ty64 : tyT Tryz.prog 64 = .slice 3 24 true := by kernel_rfl
@[go_sem] theorem zero64 : zeroT Tryz.prog 64 = some [.nil] := by kernel_rfl
@[go_sem] theorem zel64 : zeroElemT Tryz.prog 64 = some [.int .i64 0, .int .i64 0, .int .i64 0] := by kernel_rfl
@[go_sem] theorem lay65 : layT Tryz.prog 65 = some ⟨false, 1⟩ := by kernel_rfl
@[go_sem] theorem ty65 : tyT Tryz.prog 65 = .slice 8 64 true := by kernel_rfl
@[go_sem] theorem zero65 : zeroT Tryz.prog 65 = some [.nil] := by kernel_rfl
@[go_sem] theorem zel65 : zeroElemT Tryz.prog 65 = some [.int .i64 0, .int .i64 0, .int .i64 0, .int .i64 0, .int .i64 0, .int .i64 0, .int .i64 0, .int .i64 0] := by kernel_rfl
@[go_sem] theorem lay66 : layT Tryz.prog 66 = some ⟨true, 5⟩ := by kernel_rfl
@[go_sem] theorem ty66 : tyT Tryz.prog 66 = .struct [⟨0, 1, false⟩, ⟨1, 1, false⟩, ⟨2, 1, false⟩, ⟨3, 1, false⟩, ⟨4, 1, false⟩] := by kernel_rfl
@[go_sem] theorem zero66 : zeroT Tryz.prog 66 = some [.int .i64 0, .int .i64 0, .int .i64 0, .nil, .nil] := by kernel_rfl
@[go_sem] theorem lay67 : layT Tryz.prog 67 = some ⟨true, 5⟩ := by kernel_rfl
@[go_sem] theorem ty67 : tyT Tryz.prog 67 = .struct [⟨0, 1, false⟩, ⟨1, 1, false⟩, ⟨2, 1, false⟩, ⟨3, 1, false⟩, ⟨4, 1, false⟩] := by kernel_rfl
@[go_sem] theorem zero67 : zeroT Tryz.prog 67 = some [.int .i64 0, .int .i64 0, .int .i64 0, .nil, .nil] := by kernel_rfl
@[go_sem] theorem lay68 : layT Tryz.prog 68 = some ⟨true, 7⟩ := by kernel_rfl
@[go_sem] theorem ty68 : tyT Tryz.prog 68 = .struct [⟨0, 1, false⟩, ⟨1, 1, false⟩, ⟨2, 5, true⟩] := by kernel_rfl
@[go_sem] theorem zero68 : zeroT Tryz.prog 68 = some [.int .i64 0, .int .i64 0, .int .i64 0, .int .i64 0, .int .i64 0, .nil, .nil] := by kernel_rfl
@[go_sem] theorem lay69 : layT Tryz.prog 69 = some ⟨true, 7⟩ := by kernel_rfl
@[go_sem] theorem ty69 : tyT Tryz.prog 69 = .struct [⟨0, 1, false⟩, ⟨1, 1, false⟩, ⟨2, 5, true⟩] := by kernel_rfl
@[go_sem] theorem zero69 : zeroT Tryz.prog 69 = some [.int .i64 0, .int .i64 0, .int .i64 0, .int .i64 0, .int .i64 0, .nil, .nil] := by kernel_rfl
@[go_sem] theorem lay70 : layT Tryz.prog 70 = some ⟨false, 1⟩ := by kernel_rfl
@[go_sem] theorem ty70 : tyT Tryz.prog 70 = .func := by kernel_rfl
@[go_sem] theorem zero70 : zeroT Tryz.prog 70 = some [.nilfn] := by kernel_rfl
@[go_sem] theorem lay71 : layT Tryz.prog 71 = some ⟨false, 1⟩ := by kernel_rfl
@[go_sem] theorem ty71 : tyT Tryz.prog 71 = .func := by kernel_rfl
@[go_sem] theorem zero71 : zeroT Tryz.prog 71 = some [.nilfn] := by kernel_rfl
@[go_sem] theorem lay72 : layT Tryz.prog 72 = some ⟨false, 1⟩ := by kernel_rfl
@[go_sem] theorem ty72 : tyT Tryz.prog 72 = .func := by kernel_rfl
@[go_sem] theorem zero72 : zeroT Tryz.prog 72 = some [.nilfn] := by kernel_rfl
@[go_sem] theorem lay73 : layT Tryz.prog 73 = some ⟨false, 1⟩ := by kernel_rfl
@[go_sem] theorem ty73 : tyT Tryz.prog 73 = .func := by kernel_rfl
@[go_sem] theorem zero73 : zeroT Tryz.prog 73 = some [.nilfn] := by kernel_rfl
@[go_sem] theorem lay74 : layT Tryz.prog 74 = some ⟨false, 1⟩ := by kernel_rfl
@[go_sem] theorem ty74 : tyT Tryz.prog 74 = .func := by kernel_rfl
@[go_sem] theorem zero74 : zeroT Tryz.prog 74 = some [.nilfn] := by kernel_rfl
@[go_sem] theorem lay75 : layT Tryz.prog 75 = some ⟨true, 3⟩ := by kernel_rfl
@[go_sem] theorem ty75 : tyT Tryz.prog 75 = .struct [⟨0, 1, false⟩, ⟨1, 1, false⟩, ⟨2, 1, false⟩] := by kernel_rfl
@[go_sem] theorem zero75 : zeroT Tryz.prog 75 = some [.int .i64 0, .int .i64 0, .int .i64 0] := by kernel_rfl
@[go_sem] theorem lvs75 : leavesT Tryz.prog 9 75 = some [.int, .int, .int] := by kernel_rfl
@[go_sem] theorem isAgg75 : isAggT Tryz.prog 75 = true := by kernel_rfl
@[go_sem] theorem lay76 : layT Tryz.prog 76 = some ⟨true, 3⟩ := by kernel_rfl
@[go_sem] theorem ty76 : tyT Tryz.prog 76 = .struct [⟨0, 1, false⟩, ⟨1, 1, false⟩, ⟨2, 1, false⟩] := by kernel_rfl
@[go_sem] theorem zero76 : zeroT Tryz.prog 76 = some [.int .i64 0, .int .i64 0, .int .i64 0] := by kernel_rfl
@[go_sem] theorem lvs76 : leavesT Tryz.prog 9 76 = some [.int, .int, .int] := by kernel_rfl
@[go_sem] theorem isAgg76 : isAggT Tryz.prog 76 = true := by kernel_rfl
@[go_sem] theorem lay77 : layT Tryz.prog 77 = some ⟨true, 3⟩ := by kernel_rfl
@[go_sem] theorem ty77 : tyT Tryz.prog 77 = .struct [⟨0, 1, false⟩, ⟨1, 1, false⟩, ⟨2, 1, false⟩] := by kernel_rfl
@[go_sem] theorem zero77 : zeroT Tryz.prog 77 = some [.int .i64 0, .int .i64 0, .int .i64 0] := by kernel_rfl
@[go_sem] theorem lvs77 : leavesT Tryz.prog 9 77 = some [.int, .int, .int] := by kernel_rfl
@[go_sem] theorem isAgg77 : isAggT Tryz.prog 77 = true := by kernel_rfl
@[go_sem] theorem lay78 : layT Tryz.prog 78 = some ⟨true, 3⟩ := by kernel_rfl
@[go_sem] theorem ty78 : tyT Tryz.prog 78 = .struct [⟨0, 1, false⟩, ⟨1, 1, false⟩, ⟨2, 1, false⟩] := by kernel_rfl
@[go_sem] theorem zero78 : zeroT Tryz.prog 78 = some [.int .i64 0, .int .i64 0, .int .i64 0] := by kernel_rfl
@[go_sem] theorem lvs78 : leavesT Tryz.prog 9 78 = some [.int, .int, .int] := by kernel_rfl
@[go_sem] theorem isAgg78 : isAggT Tryz.prog 78 = true := by kernel_rfl
@[go_sem] theorem lay79 : layT Tryz.prog 79 = some ⟨true, 4⟩ := by kernel_rfl
@[go_sem] theorem ty79 : tyT Tryz.prog 79 = .struct [⟨0, 1, false⟩, ⟨1, 1, false⟩, ⟨2, 1, false⟩, ⟨3, 1, false⟩] := by kernel_rfl
@[go_sem] theorem zero79 : zeroT Tryz.prog 79 = some [.int .i64 0, .int .i64 0, .int .i64 0, .int .i64 0] := by kernel_rfl
@[go_sem] theorem lvs79 : leavesT Tryz.prog 9 79 = some [.int, .int, .int, .int] := by kernel_rfl
@[go_sem] theorem isAgg79 : isAggT Tryz.prog 79 = true := by kernel_rfl
@[go_sem] theorem lay80 : layT Tryz.prog 80 = some ⟨true, 4⟩ := by kernel_rfl
@[go_sem] theorem ty80 : tyT Tryz.prog 80 = .struct [⟨0, 1, false⟩, ⟨1, 1, false⟩, ⟨2, 1, false⟩, ⟨3, 1, false⟩] := by kernel_rfl
@[go_sem] theorem zero80 : zeroT Tryz.prog 80 = some [.int .i64 0, .int .i64 0, .int .i64 0, .int .i64 0] := by kernel_rfl
@[go_sem] theorem lvs80 : leavesT Tryz.prog 9 80 = some [.int, .int, .int, .int] := by kernel_rfl
@[go_sem] theorem isAgg80 : isAggT Tryz.prog 80 = true := by kernel_rfl
@[go_sem] theorem lay82 : layT Tryz.prog 82 = some ⟨false, 1⟩ := by kernel_rfl
@[go_sem] theorem ty82 : tyT Tryz.prog 82 = .func := by kernel_rfl
@[go_sem] theorem zero82 : zeroT Tryz.prog 82 = some [.nilfn] := by kernel_rfl
@[go_sem] theorem lay83 : layT Tryz.prog 83 = some ⟨false, 1⟩ := by kernel_rfl
@[go_sem] theorem ty83 : tyT Tryz.prog 83 = .func := by kernel_rfl
@[go_sem] theorem zero83 : zeroT Tryz.prog 83 = some [.nilfn] := by kernel_rfl
@[go_sem] theorem lay84 : layT Tryz.prog 84 = some ⟨false, 1⟩ := by kernel_rfl
@[go_sem] theorem ty84 : tyT Tryz.prog 84 = .func := by kernel_rfl
@[go_sem] theorem zero84 : zeroT Tryz.prog 84 = some [.nilfn] := by kernel_rfl
@[go_sem] theorem lay85 : layT Tryz.prog 85 = some ⟨false, 1⟩ := by kernel_rfl
@[go_sem] theorem ty85 : tyT Tryz.prog 85 = .func := by kernel_rfl
@[go_sem] theorem zero85 : zeroT Tryz.prog 85 = some [.nilfn] := by kernel_rfl
@[go_sem] theorem lay86 : layT Tryz.prog 86 = some ⟨false, 1⟩ := by kernel_rfl
@[go_sem] theorem ty86 : tyT Tryz.prog 86 = .func := by kernel_rfl
@[go_sem] theorem zero86 : zeroT Tryz.prog 86 = some [.nilfn] := by kernel_rfl
@[go_sem] theorem lay88 : layT Tryz.prog 88 = some ⟨false, 1⟩ := by kernel_rfl
@[go_sem] theorem ty88 : tyT Tryz.prog 88 = .func := by kernel_rfl
@[go_sem] theorem zero88 : zeroT Tryz.prog 88 = some [.nilfn] := by kernel_rfl
@[go_sem] theorem lay89 : layT Tryz.prog 89 = some ⟨false, 1⟩ := by kernel_rfl
@[go_sem] theorem ty89 : tyT Tryz.prog 89 = .func := by kernel_rfl
@[go_sem] theorem zero89 : zeroT Tryz.prog 89 = some [.nilfn] := by kernel_rfl
@[go_sem] theorem lay90 : layT Tryz.prog 90 = some ⟨false, 1⟩ := by kernel_rfl
@[go_sem] theorem ty90 : tyT Tryz.prog 90 = .func := by kernel_rfl
@[go_sem] theorem zero90 : zeroT Tryz.prog 90 = some [.nilfn] := by kernel_rfl
@[go_sem] theorem lay91 : layT Tryz.prog 91 = some ⟨false, 1⟩ := by kernel_rfl
@[go_sem] theorem ty91 : tyT Tryz.prog 91 = .func := by kernel_rfl
@[go_sem] theorem zero91 : zeroT Tryz.prog 91 = some [.nilfn] := by kernel_rfl
@[go_sem] theorem lay92 : layT Tryz.prog 92 = some ⟨false, 1⟩ := by kernel_rfl
@[go_sem] theorem ty92 : tyT Tryz.prog 92 = .func := by kernel_rfl
@[go_sem] theorem zero92 : zeroT Tryz.prog 92 = some [.nilfn] := by kernel_rfl
@[go_sem] theorem lay93 : layT Tryz.prog 93 = some ⟨false, 1⟩ := by kernel_rfl
@[go_sem] theorem ty93 : tyT Tryz.prog 93 = .func := by kernel_rfl
@[go_sem] theorem zero93 : zeroT Tryz.prog 93 = some [.nilfn] := by kernel_rfl
@[go_sem] theorem lay94 : layT Tryz.prog 94 = some ⟨false, 1⟩ := by kernel_rfl
@[go_sem] theorem ty94 : tyT Tryz.prog 94 = .func := by kernel_rfl
@[go_sem] theorem zero94 : zeroT Tryz.prog 94 = some [.nilfn] := by kernel_rfl
@[go_sem] theorem lay95 : layT Tryz.prog 95 = some ⟨false, 1⟩ := by kernel_rfl
@[go_sem] theorem ty95 : tyT Tryz.prog 95 = .func := by kernel_rfl
@[go_sem] theorem zero95 : zeroT Tryz.prog 95 = some [.nilfn] := by kernel_rfl
@[go_sem] theorem lay96 : layT Tryz.prog 96 = some ⟨false, 1⟩ := by kernel_rfl
@[go_sem] theorem ty96 : tyT Tryz.prog 96 = .func := by kernel_rfl
@[go_sem] theorem zero96 : zeroT Tryz.prog 96 = some [.nilfn] := by kernel_rfl
@[go_sem] theorem lay97 : layT Tryz.prog 97 = some ⟨false, 1⟩ := by kernel_rfl
@[go_sem] theorem ty97 : tyT Tryz.prog 97 = .func := by kernel_rfl
@[go_sem] theorem zero97 : zeroT Tryz.prog 97 = some [.nilfn] := by kernel_rfl
@[go_sem] theorem lay98 : layT Tryz.prog 98 = some ⟨false, 1⟩ := by kernel_rfl
@[go_sem] theorem ty98 : tyT Tryz.prog 98 = .func := by kernel_rfl
@[go_sem] theorem zero98 : zeroT Tryz.prog 98 = some [.nilfn] := by kernel_rfl
@[go_sem] theorem lay99 : layT Tryz.prog 99 = some ⟨false, 1⟩ := by kernel_rfl
@[go_sem] theorem ty99 : tyT Tryz.prog 99 = .func := by kernel_rfl
@[go_sem] theorem zero99 : zeroT Tryz.prog 99 = some [.nilfn] := by kernel_rfl
@[go_sem] theorem lay100 : layT Tryz.prog 100 = some ⟨false, 1⟩ := by kernel_rfl
@[go_sem] theorem ty100 : tyT Tryz.prog 100 = .func := by kernel_rfl
@[go_sem] theorem zero100 : zeroT Tryz.prog 100 = some [.nilfn] := by kernel_rfl
@[go_sem] theorem lay101 : layT Tryz.prog 101 = some ⟨false, 1⟩ := by kernel_rfl
@[go_sem] theorem ty101 : tyT Tryz.prog 101 = .func := by kernel_rfl
@[go_sem] theorem zero101 : zeroT Tryz.prog 101 = some [.nilfn] := by kernel_rfl
@[go_sem] theorem lay102 : layT Tryz.prog 102 = some ⟨false, 1⟩ := by kernel_rfl
@[go_sem] theorem ty102 : tyT Tryz.prog 102 = .slice 2 16 true := by kernel_rfl
@[go_sem] theorem zero102 : zeroT Tryz.prog 102 = some [.nil] := by kernel_rfl
@[go_sem] theorem zel102 : zeroElemT Tryz.prog 102 = some [.int .i64 0, .int .u64 0] := by kernel_rfl
@[go_sem] theorem lay103 : layT Tryz.prog 103 = some ⟨true, 2⟩ := by kernel_rfl
@[go_sem] theorem ty103 : tyT Tryz.prog 103 = .struct [⟨0, 1, false⟩, ⟨1, 1, false⟩] := by kernel_rfl
@[go_sem] theorem zero103 : zeroT Tryz.prog 103 = some [.int .i64 0, .int .i64 0] := by kernel_rfl
@[go_sem] theorem lvs103 : leavesT Tryz.prog 9 103 = some [.int, .int] := by kernel_rfl
@[go_sem] theorem isAgg103 : isAggT Tryz.prog 103 = true := by kernel_rfl
@[go_sem] theorem lay104 : layT Tryz.prog 104 = some ⟨true, 2⟩ := by kernel_rfl
@[go_sem] theorem ty104 : tyT Tryz.prog 104 = .struct [⟨0, 1, false⟩, ⟨1, 1, false⟩] := by kernel_rfl
@[go_sem] theorem zero104 : zeroT Tryz.prog 104 = some [.int .i64 0, .int .i64 0] := by kernel_rfl
@[go_sem] theorem lvs104 : leavesT Tryz.prog 9 104 = some [.int, .int] := by kernel_rfl
@[go_sem] theorem isAgg104 : isAggT Tryz.prog 104 = true := by kernel_rfl
@[go_sem] theorem lay105 : layT Tryz.prog 105 = some ⟨true, 4⟩ := by kernel_rfl
@[go_sem] theorem ty105 : tyT Tryz.prog 105 = .struct [⟨0, 2, true⟩, ⟨2, 1, false⟩, ⟨3, 1, false⟩] := by kernel_rfl
@[go_sem] theorem zero105 : zeroT Tryz.prog 105 = some [.int .i64 0, .int .i64 0, .int .i64 0, .int .i64 0] := by kernel_rfl
@[go_sem] theorem lvs105 : leavesT Tryz.prog 9 105 = some [.int, .int, .int, .int] := by kernel_rfl
@[go_sem] theorem isAgg105 : isAggT Tryz.prog 105 = true := by kernel_rfl
@[go_sem] theorem lay106 : layT Tryz.prog 106 = some ⟨true, 4⟩ := by kernel_rfl
@[go_sem] theorem ty106 : tyT Tryz.prog 106 = .struct [⟨0, 2, true⟩, ⟨2, 1, false⟩, ⟨3, 1, false⟩] := by kernel_rfl
@[go_sem] theorem zero106 : zeroT Tryz.prog 106 = some [.int .i64 0, .int .i64 0, .int .i64 0, .int .i64 0] := by kernel_rfl
@[go_sem] theorem lvs106 : leavesT Tryz.prog 9 106 = some [.int, .int, .int, .int] := by kernel_rfl
@[go_sem] theorem isAgg106 : isAggT Tryz.prog 106 = true := by kernel_rfl
@[go_sem] theorem lay107 : layT Tryz.prog 107 = some ⟨false, 1⟩ := by kernel_rfl
@[go_sem] theorem ty107 : tyT Tryz.prog 107 = .int .u64 := by kernel_rfl
@[go_sem] theorem zero107 : zeroT Tryz.prog 107 = some [.int .u64 0] := by kernel_rfl
@[go_sem] theorem lay108 : layT Tryz.prog 108 = some ⟨true, 2⟩ := by kernel_rfl
@[go_sem] theorem ty108 : tyT Tryz.prog 108 = .struct [⟨0, 1, false⟩, ⟨1, 1, false⟩] := by kernel_rfl
@[go_sem] theorem zero108 : zeroT Tryz.prog 108 = some [.int .i64 0, .int .u64 0] := by kernel_rfl
@[go_sem] theorem lvs108 : leavesT Tryz.prog 9 108 = some [.int, .int] := by kernel_rfl
@[go_sem] theorem isAgg108 : isAggT Tryz.prog 108 = true := by kernel_rfl
@[go_sem] theorem lay109 : layT Tryz.prog 109 = some ⟨true, 2⟩ := by kernel_rfl
@[go_sem] theorem ty109 : tyT Tryz.prog 109 = .struct [⟨0, 1, false⟩, ⟨1, 1, false⟩] := by kernel_rfl
@[go_sem] theorem zero109 : zeroT Tryz.prog 109 = some [.int .i64 0, .int .u64 0] := by kernel_rfl
@[go_sem] theorem lvs109 : leavesT Tryz.prog 9 109 = some [.int, .int] := by kernel_rfl
@[go_sem] theorem isAgg109 : isAggT Tryz.prog 109 = true := by kernel_rfl
@[go_sem] theorem lay110 : layT Tryz.prog 110 = some ⟨false, 1⟩ := by kernel_rfl
@[go_sem] theorem ty110 : tyT Tryz.prog 110 = .func := by kernel_rfl
@[go_sem] theorem zero110 : zeroT Tryz.prog 110 = some [.nilfn] := by kernel_rfl
@[go_sem] theorem lay111 : layT Tryz.prog 111 = some ⟨false, 1⟩ := by kernel_rfl
@[go_sem] theorem ty111 : tyT Tryz.prog 111 = .func := by kernel_rfl
@[go_sem] theorem zero111 : zeroT Tryz.prog 111 = some [.nilfn] := by kernel_rfl
@[go_sem] theorem lay112 : layT Tryz.prog 112 = some ⟨true, 4⟩ := by kernel_rfl
@[go_sem] theorem ty112 : tyT Tryz.prog 112 = .struct [⟨0, 3, true⟩, ⟨3, 1, false⟩] := by kernel_rfl
@[go_sem] theorem zero112 : zeroT Tryz.prog 112 = some [.int .i64 0, .int .i64 0, .int .i64 0, .int .i64 0] := by kernel_rfl
@[go_sem] theorem lvs112 : leavesT Tryz.prog 9 112 = some [.int, .int, .int, .int] := by kernel_rfl
@[go_sem] theorem isAgg112 : isAggT Tryz.prog 112 = true := by kernel_rfl
@[go_sem] theorem lay113 : layT Tryz.prog 113 = some ⟨true, 4⟩ := by kernel_rfl
@[go_sem] theorem ty113 : tyT Tryz.prog 113 = .struct [⟨0, 3, true⟩, ⟨3, 1, false⟩] := by kernel_rfl
@[go_sem] theorem zero113 : zeroT Tryz.prog 113 = some [.int .i64 0, .int .i64 0, .int .i64 0, .int .i64 0] := by kernel_rfl
@[go_sem] theorem lvs113 : leavesT Tryz.prog 9 113 = some [.int, .int, .int, .int] := by kernel_rfl
@[go_sem] theorem isAgg113 : isAggT Tryz.prog 113 = true := by kernel_rfl
@[go_sem] theorem lay114 : layT Tryz.prog 114 = some ⟨false, 1⟩ := by kernel_rfl
@[go_sem] theorem ty114 : tyT Tryz.prog 114 = .func := by kernel_rfl
@[go_sem] theorem zero114 : zeroT Tryz.prog 114 = some [.nilfn] := by kernel_rfl
@[go_sem] theorem lay115 : layT Tryz.prog 115 = some ⟨true, 6⟩ := by kernel_rfl
@[go_sem] theorem ty115 : tyT Tryz.prog 115 = .arr 6 1 false := by kernel_rfl
@[go_sem] theorem zero115 : zeroT Tryz.prog 115 = some [.int .i64 0, .int .i64 0, .int .i64 0, .int .i64 0, .int .i64 0, .int .i64 0] := by kernel_rfl
@[go_sem] theorem lvs115 : leavesT Tryz.prog 9 115 = some [.int, .int, .int, .int, .int, .int] := by kernel_rfl
@[go_sem] theorem isAgg115 : isAggT Tryz.prog 115 = true := by kernel_rfl
@[go_sem] theorem lay116 : layT Tryz.prog 116 = some ⟨true, 12⟩ := by kernel_rfl
@[go_sem] theorem ty116 : tyT Tryz.prog 116 = .struct [⟨0, 1, false⟩, ⟨1, 1, false⟩, ⟨2, 1, false⟩, ⟨3, 1, false⟩, ⟨4, 1, false⟩, ⟨5, 1, false⟩, ⟨6, 6, true⟩] := by kernel_rfl
@[go_sem] theorem zero116 : zeroT Tryz.prog 116 = some [.int .i64 0, .int .i64 0, .int .i64 0, .int .i64 0, .int .i64 0, .int .i64 0, .int .i64 0, .int .i64 0, .int .i64 0, .int .i64 0, .int .i64 0, .int .i64 0] := by kernel_rfl
@[go_sem] theorem lvs116 : leavesT Tryz.prog 9 116 = some [.int, .int, .int, .int, .int, .int, .int, .int, .int, .int, .int, .int] := by kernel_rfl
@[go_sem] theorem isAgg116 : isAggT Tryz.prog 116 = true := by kernel_rfl
@[go_sem] theorem lay117 : layT Tryz.prog 117 = some ⟨true, 12⟩ := by kernel_rfl
@[go_sem] theorem ty117 : tyT Tryz.prog 117 = .struct [⟨0, 1, false⟩, ⟨1, 1, false⟩, ⟨2, 1, false⟩, ⟨3, 1, false⟩, ⟨4, 1, false⟩, ⟨5, 1, false⟩, ⟨6, 6, true⟩] := by kernel_rfl
@[go_sem] theorem zero117 : zeroT Tryz.prog 117 = some [.int .i64 0, .int .i64 0, .int .i64 0, .int .i64 0, .int .i64 0, .int .i64 0, .int .i64 0, .int .i64 0, .int .i64 0, .int .i64 0, .int .i64 0, .int .i64 0] := by kernel_rfl
@[go_sem] theorem lvs117 : leavesT Tryz.prog 9 117 = some [.int, .int, .int, .int, .int, .int, .int, .int, .int, .int, .int, .int] := by kernel_rfl
@[go_sem] theorem isAgg117 : isAggT Tryz.prog 117 = true := by kernel_rfl
@[go_sem] theorem lay118 : layT Tryz.prog 118 = some ⟨false, 1⟩ := by kernel_rfl
@[go_sem] theorem ty118 : tyT Tryz.prog 118 = .func := by kernel_rfl
@[go_sem] theorem zero118 : zeroT Tryz.prog 118 = some [.nilfn] := by kernel_rfl
@[go_sem] theorem lay119 : layT Tryz.prog 119 = some ⟨false, 1⟩ := by kernel_rfl
@[go_sem] theorem ty119 : tyT Tryz.prog 119 = .func := by kernel_rfl
@[go_sem] theorem zero119 : zeroT Tryz.prog 119 = some [.nilfn] := by kernel_rfl
@[go_sem] theorem lay120 : layT Tryz.prog 120 = some ⟨false, 1⟩ := by kernel_rfl
@[go_sem] theorem ty120 : tyT Tryz.prog 120 = .func := by kernel_rfl
@[go_sem] theorem zero120 : zeroT Tryz.prog 120 = some [.nilfn] := by kernel_rfl
@[go_sem] theorem lay122 : layT Tryz.prog 122 = some ⟨false, 1⟩ := by kernel_rfl
@[go_sem] theorem ty122 : tyT Tryz.prog 122 = .func := by kernel_rfl
@[go_sem] theorem zero122 : zeroT Tryz.prog 122 = some [.nilfn] := by kernel_rfl
@[go_sem] theorem lay123 : layT Tryz.prog 123 = some ⟨false, 1⟩ := by kernel_rfl
@[go_sem] theorem ty123 : tyT Tryz.prog 123 = .func := by kernel_rfl
@[go_sem] theorem zero123 : zeroT Tryz.prog 123 = some [.nilfn] := by kernel_rfl
@[go_sem] theorem lay124 : layT Tryz.prog 124 = some ⟨true, 2⟩ := by kernel_rfl
@[go_sem] theorem ty124 : tyT Tryz.prog 124 = .struct [⟨0, 1, false⟩, ⟨1, 1, false⟩] := by kernel_rfl
@[go_sem] theorem zero124 : zeroT Tryz.prog 124 = some [.str ⟨#[]⟩, .bool false] := by kernel_rfl
@[go_sem] theorem lvs124 : leavesT Tryz.prog 9 124 = some [.str, .bool] := by kernel_rfl
@[go_sem] theorem isAgg124 : isAggT Tryz.prog 124 = true := by kernel_rfl
@[go_sem] theorem lay125 : layT Tryz.prog 125 = some ⟨false, 1⟩ := by kernel_rfl
@[go_sem] theorem ty125 : tyT Tryz.prog 125 = .func := by kernel_rfl
@[go_sem] theorem zero125 : zeroT Tryz.prog 125 = some [.nilfn] := by kernel_rfl
@[go_sem] theorem lay126 : layT Tryz.prog 126 = some ⟨true, 3⟩ := by kernel_rfl
@[go_sem] theorem ty126 : tyT Tryz.prog 126 = .struct [⟨0, 1, false⟩, ⟨1, 1, false⟩, ⟨2, 1, false⟩] := by kernel_rfl
@[go_sem] theorem zero126 : zeroT Tryz.prog 126 = some [.int .i64 0, .int .i64 0, .int .i64 0] := by kernel_rfl
@[go_sem] theorem lvs126 : leavesT Tryz.prog 9 126 = some [.int, .int, .int] := by kernel_rfl
@[go_sem] theorem isAgg126 : isAggT Tryz.prog 126 = true := by kernel_rfl
@[go_sem] theorem lay127 : layT Tryz.prog 127 = some ⟨true, 3⟩ := by kernel_rfl
@[go_sem] theorem ty127 : tyT Tryz.prog 127 = .struct [⟨0, 1, false⟩, ⟨1, 1, false⟩, ⟨2, 1, false⟩] := by kernel_rfl
@[go_sem] theorem zero127 : zeroT Tryz.prog 127 = some [.int .i64 0, .int .i64 0, .int .i64 0] := by kernel_rfl
@[go_sem] theorem lvs127 : leavesT Tryz.prog 9 127 = some [.int, .int, .int] := by kernel_rfl
@[go_sem] theorem isAgg127 : isAggT Tryz.prog 127 = true := by kernel_rfl
@[go_sem] theorem lay128 : layT Tryz.prog 128 = some ⟨false, 1⟩ := by kernel_rfl
@[go_sem] theorem ty128 : tyT Tryz.prog 128 = .func := by kernel_rfl
@[go_sem] theorem zero128 : zeroT Tryz.prog 128 = some [.nilfn] := by kernel_rfl
@[go_sem] theorem lay129 : layT Tryz.prog 129 = some ⟨false, 1⟩ := by kernel_rfl
@[go_sem] theorem ty129 : tyT Tryz.prog 129 = .func := by kernel_rfl
@[go_sem] theorem zero129 : zeroT Tryz.prog 129 = some [.nilfn] := by kernel_rfl
@[go_sem] theorem lay130 : layT Tryz.prog 130 = some ⟨false, 1⟩ := by kernel_rfl
@[go_sem] theorem ty130 : tyT Tryz.prog 130 = .func := by kernel_rfl
@[go_sem] theorem zero130 : zeroT Tryz.prog 130 = some [.nilfn] := by kernel_rfl
@[go_sem] theorem lay131 : layT Tryz.prog 131 = some ⟨true, 7⟩ := by kernel_rfl
@[go_sem] theorem ty131 : tyT Tryz.prog 131 = .struct [⟨0, 1, false⟩, ⟨1, 1, false⟩, ⟨2, 1, false⟩, ⟨3, 1, false⟩, ⟨4, 1, false⟩, ⟨5, 1, false⟩, ⟨6, 1, false⟩] := by kernel_rfl
@[go_sem] theorem zero131 : zeroT Tryz.prog 131 = some [.int .i64 0, .int .i64 0, .int .i64 0, .int .i64 0, .int .i64 0, .int .i64 0, .bool false] := by kernel_rfl
@[go_sem] theorem lvs131 : leavesT Tryz.prog 9 131 = some [.int, .int, .int, .int, .int, .int, .bool] := by kernel_rfl
@[go_sem] theorem isAgg131 : isAggT Tryz.prog 131 = true := by kernel_rfl
@[go_sem] theorem lay132 : layT Tryz.prog 132 = some ⟨true, 7⟩ := by kernel_rfl
@[go_sem] theorem ty132 : tyT Tryz.prog 132 = .struct [⟨0, 1, false⟩, ⟨1, 1, false⟩, ⟨2, 1, false⟩, ⟨3, 1, false⟩, ⟨4, 1, false⟩, ⟨5, 1, false⟩, ⟨6, 1, false⟩] := by kernel_rfl
@[go_sem] theorem zero132 : zeroT Tryz.prog 132 = some [.int .i64 0, .int .i64 0, .int .i64 0, .int .i64 0, .int .i64 0, .int .i64 0, .bool false] := by kernel_rfl
@[go_sem] theorem lvs132 : leavesT Tryz.prog 9 132 = some [.int, .int, .int, .int, .int, .int, .bool] := by kernel_rfl
@[go_sem] theorem isAgg132 : isAggT Tryz.prog 132 = true := by kernel_rfl
@[go_sem] theorem lay133 : layT Tryz.prog 133 = some ⟨false, 1⟩ := by kernel_rfl
@[go_sem] theorem ty133 : tyT Tryz.prog 133 = .func := by kernel_rfl
@[go_sem] theorem zero133 : zeroT Tryz.prog 133 = some [.nilfn] := by kernel_rfl
@[go_sem] theorem lay134 : layT Tryz.prog 134 = some ⟨false, 1⟩ := by kernel_rfl
@[go_sem] theorem ty134 : tyT Tryz.prog 134 = .func := by kernel_rfl
@[go_sem] theorem zero134 : zeroT Tryz.prog 134 = some [.nilfn] := by kernel_rfl
@[go_sem] theorem lay135 : layT Tryz.prog 135 = some ⟨true, 3⟩ := by kernel_rfl
@[go_sem] theorem ty135 : tyT Tryz.prog 135 = .struct [⟨0, 1, false⟩, ⟨1, 1, false⟩, ⟨2, 1, false⟩] := by kernel_rfl
@[go_sem] theorem zero135 : zeroT Tryz.prog 135 = some [.int .i64 0, .int .i64 0, .int .i64 0] := by kernel_rfl
@[go_sem] theorem lvs135 : leavesT Tryz.prog 9 135 = some [.int, .int, .int] := by kernel_rfl
@[go_sem] theorem isAgg135 : isAggT Tryz.prog 135 = true := by kernel_rfl
@[go_sem] theorem lay136 : layT Tryz.prog 136 = some ⟨true, 3⟩ := by kernel_rfl
@[go_sem] theorem ty136 : tyT Tryz.prog 136 = .struct [⟨0, 1, false⟩, ⟨1, 1, false⟩, ⟨2, 1, false⟩] := by kernel_rfl
@[go_sem] theorem zero136 : zeroT Tryz.prog 136 = some [.int .i64 0, .int .i64 0, .int .i64 0] := by kernel_rfl
@[go_sem] theorem lvs136 : leavesT Tryz.prog 9 136 = some [.int, .int, .int] := by kernel_rfl
@[go_sem] theorem isAgg136 : isAggT Tryz.prog 136 = true := by kernel_rfl
@[go_sem] theorem lay137 : layT Tryz.prog 137 = some ⟨true, 4⟩ := by kernel_rfl
@[go_sem] theorem ty137 : tyT Tryz.prog 137 = .struct [⟨0, 3, true⟩, ⟨3, 1, false⟩] := by kernel_rfl
@[go_sem] theorem zero137 : zeroT Tryz.prog 137 = some [.int .i64 0, .int .i64 0, .int .i64 0, .int .i64 0] := by kernel_rfl
@[go_sem] theorem lvs137 : leavesT Tryz.prog 9 137 = some [.int, .int, .int, .int] := by kernel_rfl
@[go_sem] theorem isAgg137 : isAggT Tryz.prog 137 = true := by kernel_rfl
@[go_sem] theorem lay138 : layT Tryz.prog 138 = some ⟨true, 4⟩ := by kernel_rfl
@[go_sem] theorem ty138 : tyT Tryz.prog 138 = .struct [⟨0, 3, true⟩, ⟨3, 1, false⟩] := by kernel_rfl
@[go_sem] theorem zero138 : zeroT Tryz.prog 138 = some [.int .i64 0, .int .i64 0, .int .i64 0, .int .i64 0] := by kernel_rfl
@[go_sem] theorem lvs138 : leavesT Tryz.prog 9 138 = some [.int, .int, .int, .int] := by kernel_rfl
@[go_sem] theorem isAgg138 : isAggT Tryz.prog 138 = true := by kernel_rfl
@[go_sem] theorem lay139 : layT Tryz.prog 139 = some ⟨true, 5⟩ := by kernel_rfl
@[go_sem] theorem ty139 : tyT Tryz.prog 139 = .struct [⟨0, 2, true⟩, ⟨2, 1, false⟩, ⟨3, 1, false⟩, ⟨4, 1, false⟩] := by kernel_rfl
@[go_sem] theorem zero139 : zeroT Tryz.prog 139 = some [.int .i64 0, .int .i64 0, .int .i64 0, .int .i64 0, .int .i64 0] := by kernel_rfl
@[go_sem] theorem lvs139 : leavesT Tryz.prog 9 139 = some [.int, .int, .int, .int, .int] := by kernel_rfl
@[go_sem] theorem isAgg139 : isAggT Tryz.prog 139 = true := by kernel_rfl
@[go_sem] theorem lay140 : layT Tryz.prog 140 = some ⟨true, 5⟩ := by kernel_rfl
@[go_sem] theorem ty140 : tyT Tryz.prog 140 = .struct [⟨0, 2, true⟩, ⟨2, 1, false⟩, ⟨3, 1, false⟩, ⟨4, 1, false⟩] := by kernel_rfl
@[go_sem] theorem zero140 : zeroT Tryz.prog 140 = some [.int .i64 0, .int .i64 0, .int .i64 0, .int .i64 0, .int .i64 0] := by kernel_rfl
@[go_sem] theorem lvs140 : leavesT Tryz.prog 9 140 = some [.int, .int, .int, .int, .int] := by kernel_rfl
@[go_sem] theorem isAgg140 : isAggT Tryz.prog 140 = true := by kernel_rfl
@[go_sem] theorem lay141 : layT Tryz.prog 141 = some ⟨false, 1⟩ := by kernel_rfl
@[go_sem] theorem ty141 : tyT Tryz.prog 141 = .slice 2 24 true := by kernel_rfl
@[go_sem] theorem zero141 : zeroT Tryz.prog 141 = some [.nil] := by kernel_rfl
@[go_sem] theorem zel141 : zeroElemT Tryz.prog 141 = some [.str ⟨#[]⟩, .bool false] := by kernel_rfl
@[go_sem] theorem lay142 : layT Tryz.prog 142 = some ⟨false, 1⟩ := by kernel_rfl
@[go_sem] theorem ty142 : tyT Tryz.prog 142 = .slice 1 1 false := by kernel_rfl
@[go_sem] theorem zero142 : zeroT Tryz.prog 142 = some [.nil] := by kernel_rfl
@[go_sem] theorem zel142 : zeroElemT Tryz.prog 142 = some [.bool false] := by kernel_rfl
@[go_sem] theorem lay143 : layT Tryz.prog 143 = some ⟨false, 1⟩ := by kernel_rfl
@[go_sem] theorem ty143 : tyT Tryz.prog 143 = .func := by kernel_rfl
@[go_sem] theorem zero143 : zeroT Tryz.prog 143 = some [.nilfn] := by kernel_rfl
@[go_sem] theorem lay144 : layT Tryz.prog 144 = some ⟨false, 1⟩ := by kernel_rfl
@[go_sem] theorem ty144 : tyT Tryz.prog 144 = .func := by kernel_rfl
@[go_sem] theorem zero144 : zeroT Tryz.prog 144 = some [.nilfn] := by kernel_rfl
@[go_sem] theorem lay145 : layT Tryz.prog 145 = some ⟨false, 1⟩ := by kernel_rfl
@[go_sem] theorem ty145 : tyT Tryz.prog 145 = .func := by kernel_rfl
@[go_sem] theorem zero145 : zeroT Tryz.prog 145 = some [.nilfn] := by kernel_rfl
@[go_sem] theorem lay146 : layT Tryz.prog 146 = some ⟨false, 1⟩ := by kernel_rfl
@[go_sem] theorem ty146 : tyT Tryz.prog 146 = .func := by kernel_rfl
@[go_sem] theorem zero146 : zeroT Tryz.prog 146 = some [.nilfn] := by kernel_rfl
@[go_sem] theorem lay147 : layT Tryz.prog 147 = some ⟨false, 1⟩ := by kernel_rfl
@[go_sem] theorem ty147 : tyT Tryz.prog 147 = .func := by kernel_rfl
@[go_sem] theorem zero147 : zeroT Tryz.prog 147 = some [.nilfn] := by kernel_rfl
@[go_sem] theorem lay148 : layT Tryz.prog 148 = some ⟨false, 1⟩ := by kernel_rfl
@[go_sem] theorem ty148 : tyT Tryz.prog 148 = .func := by kernel_rfl
@[go_sem] theorem zero148 : zeroT Tryz.prog 148 = some [.nilfn] := by kernel_rfl
@[go_sem] theorem lay149 : layT Tryz.prog 149 = some ⟨false, 1⟩ := by kernel_rfl
@[go_sem] theorem ty149 : tyT Tryz.prog 149 = .func := by kernel_rfl
@[go_sem] theorem zero149 : zeroT Tryz.prog 149 = some [.nilfn] := by kernel_rfl
@[go_sem] theorem lay150 : layT Tryz.prog 150 = some ⟨false, 1⟩ := by kernel_rfl
@[go_sem] theorem ty150 : tyT Tryz.prog 150 = .func := by kernel_rfl
@[go_sem] theorem zero150 : zeroT Tryz.prog 150 = some [.nilfn] := by kernel_rfl
@[go_sem] theorem lay151 : layT Tryz.prog 151 = some ⟨false, 1⟩ := by kernel_rfl
@[go_sem] theorem ty151 : tyT Tryz.prog 151 = .func := by kernel_rfl
@[go_sem] theorem zero151 : zeroT Tryz.prog 151 = some [.nilfn] := by kernel_rfl
@[go_sem] theorem lay152 : layT Tryz.prog 152 = some ⟨false, 1⟩ := by kernel_rfl
@[go_sem] theorem ty152 : tyT Tryz.prog 152 = .func := by kernel_rfl
@[go_sem] theorem zero152 : zeroT Tryz.prog 152 = some [.nilfn] := by kernel_rfl
@[go_sem] theorem lay153 : layT Tryz.prog 153 = some ⟨false, 1⟩ := by kernel_rfl
@[go_sem] theorem ty153 : tyT Tryz.prog 153 = .func := by kernel_rfl
@[go_sem] theorem zero153 : zeroT Tryz.prog 153 = some [.nilfn] := by kernel_rfl
@[go_sem] theorem lay154 : layT Tryz.prog 154 = some ⟨false, 1⟩ := by kernel_rfl
@[go_sem] theorem ty154 : tyT Tryz.prog 154 = .func := by kernel_rfl
@[go_sem] theorem zero154 : zeroT Tryz.prog 154 = some [.nilfn] := by kernel_rfl
@[go_sem] theorem lay155 : layT Tryz.prog 155 = some ⟨false, 1⟩ := by kernel_rfl
@[go_sem] theorem ty155 : tyT Tryz.prog 155 = .func := by kernel_rfl
@[go_sem] theorem zero155 : zeroT Tryz.prog 155 = some [.nilfn] := by kernel_rfl
@[go_sem] theorem lay156 : layT Tryz.prog 156 = some ⟨false, 1⟩ := by kernel_rfl
@[go_sem] theorem ty156 : tyT Tryz.prog 156 = .func := by kernel_rfl
@[go_sem] theorem zero156 : zeroT Tryz.prog 156 = some [.nilfn] := by kernel_rfl
@[go_sem] theorem lay157 : layT Tryz.prog 157 = some ⟨false, 1⟩ := by kernel_rfl
@[go_sem] theorem ty157 : tyT Tryz.prog 157 = .func := by kernel_rfl
@[go_sem] theorem zero157 : zeroT Tryz.prog 157 = some [.nilfn] := by kernel_rfl
@[go_sem] theorem lay158 : layT Tryz.prog 158 = some ⟨false, 1⟩ := by kernel_rfl
@[go_sem] theorem ty158 : tyT Tryz.prog 158 = .func := by kernel_rfl
@[go_sem] theorem zero158 : zeroT Tryz.prog 158 = some [.nilfn] := by kernel_rfl
@[go_sem] theorem lay160 : layT Tryz.prog 160 = some ⟨false, 1⟩ := by kernel_rfl
@[go_sem] theorem ty160 : tyT Tryz.prog 160 = .func := by kernel_rfl
@[go_sem] theorem zero160 : zeroT Tryz.prog 160 = some [.nilfn] := by kernel_rfl
@[go_sem] theorem lay161 : layT Tryz.prog 161 = some ⟨false, 1⟩ := by kernel_rfl
@[go_sem] theorem ty161 : tyT Tryz.prog 161 = .func := by kernel_rfl
@[go_sem] theorem zero161 : zeroT Tryz.prog 161 = some [.nilfn] := by kernel_rfl
@[go_sem] theorem lay163 : layT Tryz.prog 163 = some ⟨false, 1⟩ := by kernel_rfl
@[go_sem] theorem ty163 : tyT Tryz.prog 163 = .func := by kernel_rfl
@[go_sem] theorem zero163 : zeroT Tryz.prog 163 = some [.nilfn] := by kernel_rfl
@[go_sem] theorem lay164 : layT Tryz.prog 164 = some ⟨false, 1⟩ := by kernel_rfl
@[go_sem] theorem ty164 : tyT Tryz.prog 164 = .int .u64 := by kernel_rfl
@[go_sem] theorem zero164 : zeroT Tryz.prog 164 = some [.int .u64 0] := by kernel_rfl
@[go_sem] theorem lay165 : layT Tryz.prog 165 = some ⟨false, 1⟩ := by kernel_rfl
@[go_sem] theorem ty165 : tyT Tryz.prog 165 = .func := by kernel_rfl
@[go_sem] theorem zero165 : zeroT Tryz.prog 165 = some [.nilfn] := by kernel_rfl
@[go_sem] theorem lay166 : layT Tryz.prog 166 = some ⟨false, 1⟩ := by kernel_rfl
@[go_sem] theorem ty166 : tyT Tryz.prog 166 = .func := by kernel_rfl
@[go_sem] theorem zero166 : zeroT Tryz.prog 166 = some [.nilfn] := by kernel_rfl
@[go_sem] theorem lay167 : layT Tryz.prog 167 = some ⟨false, 1⟩ := by kernel_rfl
@[go_sem] theorem ty167 : tyT Tryz.prog 167 = .func := by kernel_rfl
@[go_sem] theorem zero167 : zeroT Tryz.prog 167 = some [.nilfn] := by kernel_rfl
@[go_sem] theorem lay169 : layT Tryz.prog 169 = some ⟨false, 1⟩ := by kernel_rfl
@[go_sem] theorem ty169 : tyT Tryz.prog 169 = .func := by kernel_rfl
@[go_sem] theorem zero169 : zeroT Tryz.prog 169 = some [.nilfn] := by kernel_rfl
@[go_sem] theorem lay171 : layT Tryz.prog 171 = some ⟨false, 1⟩ := by kernel_rfl
@[go_sem] theorem ty171 : tyT Tryz.prog 171 = .func := by kernel_rfl
@[go_sem] theorem zero171 : zeroT Tryz.prog 171 = some [.nilfn] := by kernel_rfl
@[go_sem] theorem lay172 : layT Tryz.prog 172 = some ⟨false, 1⟩ := by kernel_rfl
@[go_sem] theorem ty172 : tyT Tryz.prog 172 = .func := by kernel_rfl
@[go_sem] theorem zero172 : zeroT Tryz.prog 172 = some [.nilfn] := by kernel_rfl
@[go_sem] theorem lay173 : layT Tryz.prog 173 = some ⟨false, 1⟩ := by kernel_rfl
@[go_sem] theorem ty173 : tyT Tryz.prog 173 = .func := by kernel_rfl
@[go_sem] theorem zero173 : zeroT Tryz.prog 173 = some [.nilfn] := by kernel_rfl
@[go_sem] theorem lay174 : layT Tryz.prog 174 = some ⟨false, 1⟩ := by kernel_rfl
@[go_sem] theorem ty174 : tyT Tryz.prog 174 = .func := by kernel_rfl
@[go_sem] theorem zero174 : zeroT Tryz.prog 174 = some [.nilfn] := by kernel_rfl
@[go_sem] theorem lay175 : layT Tryz.prog 175 = some ⟨false, 1⟩ := by kernel_rfl
@[go_sem] theorem ty175 : tyT Tryz.prog 175 = .func := by kernel_rfl
@[go_sem] theorem zero175 : zeroT Tryz.prog 175 = some [.nilfn] := by kernel_rfl
@[go_sem] theorem lay176 : layT Tryz.prog 176 = some ⟨false, 1⟩ := by kernel_rfl
@[go_sem] theorem ty176 : tyT Tryz.prog 176 = .func := by kernel_rfl
@[go_sem] theorem zero176 : zeroT Tryz.prog 176 = some [.nilfn] := by kernel_rfl
@[go_sem] theorem lay178 : layT Tryz.prog 178 = some ⟨false, 1⟩ := by kernel_rfl
@[go_sem] theorem ty178 : tyT Tryz.prog 178 = .func := by kernel_rfl
@[go_sem] theorem zero178 : zeroT Tryz.prog 178 = some [.nilfn] := by kernel_rfl
@[go_sem] theorem lay179 : layT Tryz.prog 179 = some ⟨false, 1⟩ := by kernel_rfl
@[go_sem] theorem ty179 : tyT Tryz.prog 179 = .slice 13 104 true := by kernel_rfl
@[go_sem] theorem zero179 : zeroT Tryz.prog 179 = some [.nil] := by kernel_rfl
@[go_sem] theorem zel179 : zeroElemT Tryz.prog 179 = some [.int .i64 0, .int .i64 0, .int .i64 0, .int .i64 0, .int .i64 0, .int .i64 0, .int .i64 0, .int .i64 0, .int .i64 0, .int .i64 0, .int .i64 0, .int .i64 0, .int .i64 0] := by kernel_rfl
@[go_sem] theorem lay181 : layT Tryz.prog 181 = some ⟨false, 1⟩ := by kernel_rfl
@[go_sem] theorem ty181 : tyT Tryz.prog 181 = .func := by kernel_rfl
@[go_sem] theorem zero181 : zeroT Tryz.prog 181 = some [.nilfn] := by kernel_rfl
@[go_sem] theorem lay182 : layT Tryz.prog 182 = some ⟨true, 13⟩ := by kernel_rfl
@[go_sem] theorem ty182 : tyT Tryz.prog 182 = .struct [⟨0, 12, true⟩, ⟨12, 1, false⟩] := by kernel_rfl
@[go_sem] theorem zero182 : zeroT Tryz.prog 182 = some [.int .i64 0, .int .i64 0, .int .i64 0, .int .i64 0, .int .i64 0, .int .i64 0, .int .i64 0, .int .i64 0, .int .i64 0, .int .i64 0, .int .i64 0, .int .i64 0, .int .i64 0] := by kernel_rfl
@[go_sem] theorem lvs182 : leavesT Tryz.prog 9 182 = some [.int, .int, .int, .int, .int, .int, .int, .int, .int, .int, .int, .int, .int] := by kernel_rfl
@[go_sem] theorem isAgg182 : isAggT Tryz.prog 182 = true := by kernel_rfl
@[go_sem] theorem lay183 : layT Tryz.prog 183 = some ⟨true, 13⟩ := by kernel_rfl
@[go_sem] theorem ty183 : tyT Tryz.prog 183 = .struct [⟨0, 12, true⟩, ⟨12, 1, false⟩] := by kernel_rfl
@[go_sem] theorem zero183 : zeroT Tryz.prog 183 = some [.int .i64 0, .int .i64 0, .int .i64 0, .int .i64 0, .int .i64 0, .int .i64 0, .int .i64 0, .int .i64 0, .int .i64 0, .int .i64 0, .int .i64 0, .int .i64 0, .int .i64 0] := by kernel_rfl
@[go_sem] theorem lvs183 : leavesT Tryz.prog 9 183 = some [.int, .int, .int, .int, .int, .int, .int, .int, .int, .int, .int, .int, .int] := by kernel_rfl
@[go_sem] theorem isAgg183 : isAggT Tryz.prog 183 = true := by kernel_rfl
@[go_sem] theorem lay185 : layT Tryz.prog 185 = some ⟨false, 1⟩ := by kernel_rfl
@[go_sem] theorem ty185 : tyT Tryz.prog 185 = .func := by kernel_rfl
@[go_sem] theorem zero185 : zeroT Tryz.prog 185 = some [.nilfn] := by kernel_rfl
@[go_sem] theorem lay186 : layT Tryz.prog 186 = some ⟨false, 1⟩ := by kernel_rfl
@[go_sem] theorem ty186 : tyT Tryz.prog 186 = .func := by kernel_rfl
@[go_sem] theorem zero186 : zeroT Tryz.prog 186 = some [.nilfn] := by kernel_rfl
@[go_sem] theorem lay187 : layT Tryz.prog 187 = some ⟨false, 1⟩ := by kernel_rfl
@[go_sem] theorem ty187 : tyT Tryz.prog 187 = .func := by kernel_rfl
@[go_sem] theorem zero187 : zeroT Tryz.prog 187 = some [.nilfn] := by kernel_rfl
@[go_sem] theorem lay188 : layT Tryz.prog 188 = some ⟨false, 1⟩ := by kernel_rfl
@[go_sem] theorem ty188 : tyT Tryz.prog 188 = .func := by kernel_rfl
@[go_sem] theorem zero188 : zeroT Tryz.prog 188 = some [.nilfn] := by kernel_rfl
@[go_sem] theorem lay189 : layT Tryz.prog 189 = some ⟨false, 1⟩ := by kernel_rfl
@[go_sem] theorem ty189 : tyT Tryz.prog 189 = .func := by kernel_rfl
@[go_sem] theorem zero189 : zeroT Tryz.prog 189 = some [.nilfn] := by kernel_rfl
@[go_sem] theorem lay190 : layT Tryz.prog 190 = some ⟨false, 1⟩ := by kernel_rfl
@[go_sem] theorem ty190 : tyT Tryz.prog 190 = .func := by kernel_rfl
@[go_sem] theorem zero190 : zeroT Tryz.prog 190 = some [.nilfn] := by kernel_rfl
@[go_sem] theorem lay191 : layT Tryz.prog 191 = some ⟨false, 1⟩ := by kernel_rfl
@[go_sem] theorem ty191 : tyT Tryz.prog 191 = .func := by kernel_rfl
@[go_sem] theorem zero191 : zeroT Tryz.prog 191 = some [.nilfn] := by kernel_rfl
@[go_sem] theorem lay192 : layT Tryz.prog 192 = some ⟨false, 1⟩ := by kernel_rfl
@[go_sem] theorem ty192 : tyT Tryz.prog 192 = .func := by kernel_rfl
@[go_sem] theorem zero192 : zeroT Tryz.prog 192 = some [.nilfn] := by kernel_rfl
@[go_sem] theorem lay193 : layT Tryz.prog 193 = some ⟨false, 1⟩ := by kernel_rfl
@[go_sem] theorem ty193 : tyT Tryz.prog 193 = .func := by kernel_rfl
@[go_sem] theorem zero193 : zeroT Tryz.prog 193 = some [.nilfn] := by kernel_rfl
@[go_sem] theorem lay194 : layT Tryz.prog 194 = some ⟨false, 1⟩ := by kernel_rfl
@[go_sem] theorem ty194 : tyT Tryz.prog 194 = .func := by kernel_rfl
@[go_sem] theorem zero194 : zeroT Tryz.prog 194 = some [.nilfn] := by kernel_rfl
@[go_sem] theorem lay195 : layT Tryz.prog 195 = some ⟨false, 1⟩ := by kernel_rfl
@[go_sem] theorem ty195 : tyT Tryz.prog 195 = .func := by kernel_rfl
@[go_sem] theorem zero195 : zeroT Tryz.prog 195 = some [.nilfn] := by kernel_rfl
@[go_sem] theorem lay196 : layT Tryz.prog 196 = some ⟨false, 1⟩ := by kernel_rfl
@[go_sem] theorem ty196 : tyT Tryz.prog 196 = .func := by kernel_rfl
@[go_sem] theorem zero196 : zeroT Tryz.prog 196 = some [.nilfn] := by kernel_rfl
@[go_sem] theorem lay197 : layT Tryz.prog 197 = some ⟨false, 1⟩ := by kernel_rfl
@[go_sem] theorem ty197 : tyT Tryz.prog 197 = .func := by kernel_rfl
@[go_sem] theorem zero197 : zeroT Tryz.prog 197 = some [.nilfn] := by kernel_rfl
@[go_sem] theorem lay198 : layT Tryz.prog 198 = some ⟨false, 1⟩ := by kernel_rfl
@[go_sem] theorem ty198 : tyT Tryz.prog 198 = .func := by kernel_rfl
@[go_sem] theorem zero198 : zeroT Tryz.prog 198 = some [.nilfn] := by kernel_rfl
@[go_sem] theorem lay199 : layT Tryz.prog 199 = some ⟨false, 1⟩ := by kernel_rfl
@[go_sem] theorem ty199 : tyT Tryz.prog 199 = .func := by kernel_rfl
@[go_sem] theorem zero199 : zeroT Tryz.prog 199 = some [.nilfn] := by kernel_rfl
@[go_sem] theorem lay200 : layT Tryz.prog 200 = some ⟨false, 1⟩ := by kernel_rfl
@[go_sem] theorem ty200 : tyT Tryz.prog 200 = .func := by kernel_rfl
@[go_sem] theorem zero200 : zeroT Tryz.prog 200 = some [.nilfn] := by kernel_rfl
@[go_sem] theorem lay201 : layT Tryz.prog 201 = some ⟨false, 1⟩ := by kernel_rfl
@[go_sem] theorem ty201 : tyT Tryz.prog 201 = .func := by kernel_rfl
@[go_sem] theorem zero201 : zeroT Tryz.prog 201 = some [.nilfn] := by kernel_rfl
@[go_sem] theorem lay202 : layT Tryz.prog 202 = some ⟨false, 1⟩ := by kernel_rfl
@[go_sem] theorem ty202 : tyT Tryz.prog 202 = .func := by kernel_rfl
@[go_sem] theorem zero202 : zeroT Tryz.prog 202 = some [.nilfn] := by kernel_rfl
@[go_sem] theorem lay203 : layT Tryz.prog 203 = some ⟨false, 1⟩ := by kernel_rfl
@[go_sem] theorem ty203 : tyT Tryz.prog 203 = .func := by kernel_rfl
@[go_sem] theorem zero203 : zeroT Tryz.prog 203 = some [.nilfn] := by kernel_rfl
@[go_sem] theorem lay204 : layT Tryz.prog 204 = some ⟨true, 5⟩ := by kernel_rfl
@[go_sem] theorem ty204 : tyT Tryz.prog 204 = .arr 5 1 false := by kernel_rfl
@[go_sem] theorem zero204 : zeroT Tryz.prog 204 = some [.int .i64 0, .int .i64 0, .int .i64 0, .int .i64 0, .int .i64 0] := by kernel_rfl
@[go_sem] theorem lvs204 : leavesT Tryz.prog 9 204 = some [.int, .int, .int, .int, .int] := by kernel_rfl
@[go_sem] theorem isAgg204 : isAggT Tryz.prog 204 = true := by kernel_rfl
@[go_sem] theorem lay205 : layT Tryz.prog 205 = some ⟨true, 8⟩ := by kernel_rfl
@[go_sem] theorem ty205 : tyT Tryz.prog 205 = .struct [⟨0, 1, false⟩, ⟨1, 1, false⟩, ⟨2, 5, true⟩, ⟨7, 1, false⟩] := by kernel_rfl
@[go_sem] theorem zero205 : zeroT Tryz.prog 205 = some [.int .i64 0, .int .i64 0, .int .i64 0, .int .i64 0, .int .i64 0, .int .i64 0, .int .i64 0, .int .i64 0] := by kernel_rfl
@[go_sem] theorem lvs205 : leavesT Tryz.prog 9 205 = some [.int, .int, .int, .int, .int, .int, .int, .int] := by kernel_rfl
@[go_sem] theorem isAgg205 : isAggT Tryz.prog 205 = true := by kernel_rfl
@[go_sem] theorem lay206 : layT Tryz.prog 206 = some ⟨true, 8⟩ := by kernel_rfl
@[go_sem] theorem ty206 : tyT Tryz.prog 206 = .struct [⟨0, 1, false⟩, ⟨1, 1, false⟩, ⟨2, 5, true⟩, ⟨7, 1, false⟩] := by kernel_rfl
@[go_sem] theorem zero206 : zeroT Tryz.prog 206 = some [.int .i64 0, .int .i64 0, .int .i64 0, .int .i64 0, .int .i64 0, .int .i64 0, .int .i64 0, .int .i64 0] := by kernel_rfl
@[go_sem] theorem lvs206 : leavesT Tryz.prog 9 206 = some [.int, .int, .int, .int, .int, .int, .int, .int] := by kernel_rfl
@[go_sem] theorem isAgg206 : isAggT Tryz.prog 206 = true := by kernel_rfl
@[go_sem] theorem lay207 : layT Tryz.prog 207 = some ⟨false, 1⟩ := by kernel_rfl
@[go_sem] theorem ty207 : tyT Tryz.prog 207 = .func := by kernel_rfl
@[go_sem] theorem zero207 : zeroT Tryz.prog 207 = some [.nilfn] := by kernel_rfl
@[go_sem] theorem lay208 : layT Tryz.prog 208 = some ⟨false, 1⟩ := by kernel_rfl
@[go_sem] theorem ty208 : tyT Tryz.prog 208 = .func := by kernel_rfl
@[go_sem] theorem zero208 : zeroT Tryz.prog 208 = some [.nilfn] := by kernel_rfl
@[go_sem] theorem lay209 : layT Tryz.prog 209 = some ⟨false, 1⟩ := by kernel_rfl
@[go_sem] theorem ty209 : tyT Tryz.prog 209 = .func := by kernel_rfl
@[go_sem] theorem zero209 : zeroT Tryz.prog 209 = some [.nilfn] := by kernel_rfl
@[go_sem] theorem lay210 : layT Tryz.prog 210 = some ⟨false, 1⟩ := by kernel_rfl
@[go_sem] theorem ty210 : tyT Tryz.prog 210 = .func := by kernel_rfl
@[go_sem] theorem zero210 : zeroT Tryz.prog 210 = some [.nilfn] := by kernel_rfl
@[go_sem] theorem lay212 : layT Tryz.prog 212 = some ⟨false, 1⟩ := by kernel_rfl
@[go_sem] theorem ty212 : tyT Tryz.prog 212 = .func := by kernel_rfl
@[go_sem] theorem zero212 : zeroT Tryz.prog 212 = some [.nilfn] := by kernel_rfl
@[go_sem] theorem lay213 : layT Tryz.prog 213 = some ⟨false, 1⟩ := by kernel_rfl
@[go_sem] theorem ty213 : tyT Tryz.prog 213 = .func := by kernel_rfl
@[go_sem] theorem zero213 : zeroT Tryz.prog 213 = some [.nilfn] := by kernel_rfl
@[go_sem] theorem lay215 : layT Tryz.prog 215 = some ⟨false, 1⟩ := by kernel_rfl
@[go_sem] theorem ty215 : tyT Tryz.prog 215 = .func := by kernel_rfl
@[go_sem] theorem zero215 : zeroT Tryz.prog 215 = some [.nilfn] := by kernel_rfl
@[go_sem] theorem lay216 : layT Tryz.prog 216 = some ⟨false, 1⟩ := by kernel_rfl
@[go_sem] theorem ty216 : tyT Tryz.prog 216 = .func := by kernel_rfl
@[go_sem] theorem zero216 : zeroT Tryz.prog 216 = some [.nilfn] := by kernel_rfl
@[go_sem] theorem lay217 : layT Tryz.prog 217 = some ⟨false, 1⟩ := by kernel_rfl
@[go_sem] theorem ty217 : tyT Tryz.prog 217 = .func := by kernel_rfl
@[go_sem] theorem zero217 : zeroT Tryz.prog 217 = some [.nilfn] := by kernel_rfl
@[go_sem] theorem lay218 : layT Tryz.prog 218 = some ⟨false, 1⟩ := by kernel_rfl
@[go_sem] theorem ty218 : tyT Tryz.prog 218 = .func := by kernel_rfl
@[go_sem] theorem zero218 : zeroT Tryz.prog 218 = some [.nilfn] := by kernel_rfl
@[go_sem] theorem lay221 : layT Tryz.prog 221 = some ⟨false, 1⟩ := by kernel_rfl
@[go_sem] theorem ty221 : tyT Tryz.prog 221 = .func := by kernel_rfl
@[go_sem] theorem zero221 : zeroT Tryz.prog 221 = some [.nilfn] := by kernel_rfl
@[go_sem] theorem lay223 : layT Tryz.prog 223 = some ⟨false, 1⟩ := by kernel_rfl
@[go_sem] theorem ty223 : tyT Tryz.prog 223 = .func := by kernel_rfl
@[go_sem] theorem zero223 : zeroT Tryz.prog 223 = some [.nilfn] := by kernel_rfl
@[go_sem] theorem lay224 : layT Tryz.prog 224 = some ⟨false, 1⟩ := by kernel_rfl
@[go_sem] theorem ty224 : tyT Tryz.prog 224 = .func := by kernel_rfl
@[go_sem] theorem zero224 : zeroT Tryz.prog 224 = some [.nilfn] := by kernel_rfl
@[go_sem] theorem lay225 : layT Tryz.prog 225 = some ⟨false, 1⟩ := by kernel_rfl
@[go_sem] theorem ty225 : tyT Tryz.prog 225 = .func := by kernel_rfl
@[go_sem] theorem zero225 : zeroT Tryz.prog 225 = some [.nilfn] := by kernel_rfl
@[go_sem] theorem lay226 : layT Tryz.prog 226 = some ⟨false, 1⟩ := by kernel_rfl
@[go_sem] theorem ty226 : tyT Tryz.prog 226 = .func := by kernel_rfl
@[go_sem] theorem zero226 : zeroT Tryz.prog 226 = some [.nilfn] := by kernel_rfl
@[go_sem] theorem lay228 : layT Tryz.prog 228 = some ⟨false, 1⟩ := by kernel_rfl
@[go_sem] theorem ty228 : tyT Tryz.prog 228 = .func := by kernel_rfl
@[go_sem] theorem zero228 : zeroT Tryz.prog 228 = some [.nilfn] := by kernel_rfl
@[go_sem] theorem lay229 : layT Tryz.prog 229 = some ⟨false, 1⟩ := by kernel_rfl
@[go_sem] theorem ty229 : tyT Tryz.prog 229 = .func := by kernel_rfl
@[go_sem] theorem zero229 : zeroT Tryz.prog 229 = some [.nilfn] := by kernel_rfl
@[go_sem] theorem lay230 : layT Tryz.prog 230 = some ⟨false, 1⟩ := by kernel_rfl
@[go_sem] theorem ty230 : tyT Tryz.prog 230 = .ptr := by kernel_rfl
@[go_sem] theorem zero230 : zeroT Tryz.prog 230 = some [.nilp] := by kernel_rfl
@[go_sem] theorem lay231 : layT Tryz.prog 231 = some ⟨false, 1⟩ := by kernel_rfl
@[go_sem] theorem ty231 : tyT Tryz.prog 231 = .func := by kernel_rfl
@[go_sem] theorem zero231 : zeroT Tryz.prog 231 = some [.nilfn] := by kernel_rfl
@[go_sem] theorem lay232 : layT Tryz.prog 232 = some ⟨true, 4⟩ := by kernel_rfl
@[go_sem] theorem ty232 : tyT Tryz.prog 232 = .struct [⟨0, 1, false⟩, ⟨1, 1, false⟩, ⟨2, 1, false⟩, ⟨3, 1, false⟩] := by kernel_rfl
@[go_sem] theorem zero232 : zeroT Tryz.prog 232 = some [.nilp, .nilp, .nilp, .str ⟨#[]⟩] := by kernel_rfl
@[go_sem] theorem lay233 : layT Tryz.prog 233 = some ⟨true, 4⟩ := by kernel_rfl
@[go_sem] theorem ty233 : tyT Tryz.prog 233 = .struct [⟨0, 1, false⟩, ⟨1, 1, false⟩, ⟨2, 1, false⟩, ⟨3, 1, false⟩] := by kernel_rfl
@[go_sem] theorem zero233 : zeroT Tryz.prog 233 = some [.nilp, .nilp, .nilp, .str ⟨#[]⟩] := by kernel_rfl
@[go_sem] theorem lay234 : layT Tryz.prog 234 = some ⟨true, 0⟩ := by kernel_rfl
@[go_sem] theorem ty234 : tyT Tryz.prog 234 = .arr 0 1 false := by kernel_rfl
@[go_sem] theorem zero234 : zeroT Tryz.prog 234 = some [] := by kernel_rfl
@[go_sem] theorem lay235 : layT Tryz.prog 235 = some ⟨true, 0⟩ := by kernel_rfl
@[go_sem] theorem lay236 : layT Tryz.prog 236 = some ⟨true, 0⟩ := by kernel_rfl
@[go_sem] theorem lay237 : layT Tryz.prog 237 = some ⟨false, 1⟩ := by kernel_rfl
@[go_sem] theorem ty237 : tyT Tryz.prog 237 = .func := by kernel_rfl
@[go_sem] theorem zero237 : zeroT Tryz.prog 237 = some [.nilfn] := by kernel_rfl
@[go_sem] theorem lay238 : layT Tryz.prog 238 = some ⟨false, 1⟩ := by kernel_rfl
@[go_sem] theorem ty238 : tyT Tryz.prog 238 = .int .u32 := by kernel_rfl
@[go_sem] theorem zero238 : zeroT Tryz.prog 238 = some [.int .u32 0] := by kernel_rfl
@[go_sem] theorem lay239 : layT Tryz.prog 239 = some ⟨false, 1⟩ := by kernel_rfl
@[go_sem] theorem ty239 : tyT Tryz.prog 239 = .int .u8 := by kernel_rfl
@[go_sem] theorem zero239 : zeroT Tryz.prog 239 = some [.int .u8 0] := by kernel_rfl
@[go_sem] theorem lay240 : layT Tryz.prog 240 = some ⟨false, 1⟩ := by kernel_rfl
@[go_sem] theorem ty240 : tyT Tryz.prog 240 = .int .u8 := by kernel_rfl
@[go_sem] theorem zero240 : zeroT Tryz.prog 240 = some [.int .u8 0] := by kernel_rfl
@[go_sem] theorem lay241 : layT Tryz.prog 241 = some ⟨false, 1⟩ := by kernel_rfl
@[go_sem] theorem ty241 : tyT Tryz.prog 241 = .func := by kernel_rfl
@[go_sem] theorem zero241 : zeroT Tryz.prog 241 = some [.nilfn] := by kernel_rfl
@[go_sem] theorem lay242 : layT Tryz.prog 242 = some ⟨false, 1⟩ := by kernel_rfl
@[go_sem] theorem ty242 : tyT Tryz.prog 242 = .ptr := by kernel_rfl
@[go_sem] theorem zero242 : zeroT Tryz.prog 242 = some [.nilp] := by kernel_rfl
@[go_sem] theorem lay243 : layT Tryz.prog 243 = some ⟨false, 1⟩ := by kernel_rfl
@[go_sem] theorem ty243 : tyT Tryz.prog 243 = .int .i32 := by kernel_rfl
@[go_sem] theorem zero243 : zeroT Tryz.prog 243 = some [.int .i32 0] := by kernel_rfl
@[go_sem] theorem lay244 : layT Tryz.prog 244 = some ⟨false, 1⟩ := by kernel_rfl
@[go_sem] theorem ty244 : tyT Tryz.prog 244 = .int .i32 := by kernel_rfl
@[go_sem] theorem zero244 : zeroT Tryz.prog 244 = some [.int .i32 0] := by kernel_rfl
@[go_sem] theorem lay245 : layT Tryz.prog 245 = some ⟨true, 11⟩ := by kernel_rfl
@[go_sem] theorem ty245 : tyT Tryz.prog 245 = .struct [⟨0, 1, false⟩, ⟨1, 1, false⟩, ⟨2, 1, false⟩, ⟨3, 1, false⟩, ⟨4, 1, false⟩, ⟨5, 1, false⟩, ⟨6, 1, false⟩, ⟨7, 1, false⟩, ⟨8, 1, false⟩, ⟨9, 1, false⟩, ⟨10, 1, false⟩] := by kernel_rfl
@[go_sem] theorem zero245 : zeroT Tryz.prog 245 = some [.int .u64 0, .int .u64 0, .int .u32 0, .int .u8 0, .int .u8 0, .int .u8 0, .int .u8 0, .nilfn, .nilp, .int .i32 0, .int .i32 0] := by kernel_rfl
@[go_sem] theorem lay246 : layT Tryz.prog 246 = some ⟨true, 11⟩ := by kernel_rfl
@[go_sem] theorem ty246 : tyT Tryz.prog 246 = .struct [⟨0, 1, false⟩, ⟨1, 1, false⟩, ⟨2, 1, false⟩, ⟨3, 1, false⟩, ⟨4, 1, false⟩, ⟨5, 1, false⟩, ⟨6, 1, false⟩, ⟨7, 1, false⟩, ⟨8, 1, false⟩, ⟨9, 1, false⟩, ⟨10, 1, false⟩] := by kernel_rfl
@[go_sem] theorem zero246 : zeroT Tryz.prog 246 = some [.int .u64 0, .int .u64 0, .int .u32 0, .int .u8 0, .int .u8 0, .int .u8 0, .int .u8 0, .nilfn, .nilp, .int .i32 0, .int .i32 0] := by kernel_rfl
@[go_sem] theorem lay247 : layT Tryz.prog 247 = some ⟨true, 1⟩ := by kernel_rfl
@[go_sem] theorem ty247 : tyT Tryz.prog 247 = .struct [⟨0, 1, false⟩] := by kernel_rfl
@[go_sem] theorem zero247 : zeroT Tryz.prog 247 = some [.str ⟨#[]⟩] := by kernel_rfl
@[go_sem] theorem lvs247 : leavesT Tryz.prog 9 247 = some [.str] := by kernel_rfl
@[go_sem] theorem isAgg247 : isAggT Tryz.prog 247 = true := by kernel_rfl
@[go_sem] theorem lay248 : layT Tryz.prog 248 = some ⟨true, 1⟩ := by kernel_rfl
@[go_sem] theorem ty248 : tyT Tryz.prog 248 = .struct [⟨0, 1, false⟩] := by kernel_rfl
@[go_sem] theorem zero248 : zeroT Tryz.prog 248 = some [.str ⟨#[]⟩] := by kernel_rfl
@[go_sem] theorem lvs248 : leavesT Tryz.prog 9 248 = some [.str] := by kernel_rfl
@[go_sem] theorem isAgg248 : isAggT Tryz.prog 248 = true := by kernel_rfl
end Go.Proofs.YtbllopdcbkeadaaGreat
