/- What the types of this seat's translation say, a closed fact each; no theorem of a claim. -/
import Derived.Test.YtbllopdcbkeadaaRows
import Derived.Test.YtbllopdcbkeadaaAbcEval2
namespace Go.Proofs.Ytbllopdcbkeadaa
open Go.Abs
theorem mixed : Try.prog.follows .mixedOrders = true := by kernel_rfl
@[go_sem] theorem lay1 : layT Try.prog 1 = some ⟨false, 1⟩ := by kernel_rfl
@[go_sem] theorem ty1 : tyT Try.prog 1 = .func := by kernel_rfl
@[go_sem] theorem zero1 : zeroT Try.prog 1 = some [.nilfn] := by kernel_rfl
@[go_sem] theorem lay2 : layT Try.prog 2 = some ⟨false, 1⟩ := by kernel_rfl
@[go_sem] theorem ty2 : tyT Try.prog 2 = .int .i64 := by kernel_rfl
@[go_sem] theorem zero2 : zeroT Try.prog 2 = some [.int .i64 0] := by kernel_rfl
@[go_sem] theorem lay3 : layT Try.prog 3 = some ⟨false, 1⟩ := by kernel_rfl
@[go_sem] theorem ty3 : tyT Try.prog 3 = .int .i64 := by kernel_rfl
@[go_sem] theorem zero3 : zeroT Try.prog 3 = some [.int .i64 0] := by kernel_rfl
@[go_sem] theorem lay4 : layT Try.prog 4 = some ⟨false, 1⟩ := by kernel_rfl
@[go_sem] theorem ty4 : tyT Try.prog 4 = .bool := by kernel_rfl
@[go_sem] theorem zero4 : zeroT Try.prog 4 = some [.bool false] := by kernel_rfl
@[go_sem] theorem lay5 : layT Try.prog 5 = some ⟨false, 1⟩ := by kernel_rfl
@[go_sem] theorem ty5 : tyT Try.prog 5 = .int .u8 := by kernel_rfl
@[go_sem] theorem zero5 : zeroT Try.prog 5 = some [.int .u8 0] := by kernel_rfl
@[go_sem] theorem lay6 : layT Try.prog 6 = some ⟨false, 1⟩ := by kernel_rfl
@[go_sem] theorem ty6 : tyT Try.prog 6 = .int .u8 := by kernel_rfl
@[go_sem] theorem zero6 : zeroT Try.prog 6 = some [.int .u8 0] := by kernel_rfl
@[go_sem] theorem lay7 : layT Try.prog 7 = some ⟨true, 4⟩ := by kernel_rfl
@[go_sem] theorem ty7 : tyT Try.prog 7 = .struct [⟨0, 1, false⟩, ⟨1, 1, false⟩, ⟨2, 1, false⟩, ⟨3, 1, false⟩] := by kernel_rfl
@[go_sem] theorem zero7 : zeroT Try.prog 7 = some [.int .i64 0, .int .i64 0, .bool false, .int .u8 0] := by kernel_rfl
@[go_sem] theorem lay8 : layT Try.prog 8 = some ⟨true, 4⟩ := by kernel_rfl
@[go_sem] theorem ty8 : tyT Try.prog 8 = .struct [⟨0, 1, false⟩, ⟨1, 1, false⟩, ⟨2, 1, false⟩, ⟨3, 1, false⟩] := by kernel_rfl
@[go_sem] theorem zero8 : zeroT Try.prog 8 = some [.int .i64 0, .int .i64 0, .bool false, .int .u8 0] := by kernel_rfl
@[go_sem] theorem lay9 : layT Try.prog 9 = some ⟨false, 1⟩ := by kernel_rfl
@[go_sem] theorem ty9 : tyT Try.prog 9 = .str := by kernel_rfl
@[go_sem] theorem zero9 : zeroT Try.prog 9 = some [.str ⟨#[]⟩] := by kernel_rfl
@[go_sem] theorem lay10 : layT Try.prog 10 = some ⟨false, 1⟩ := by kernel_rfl
@[go_sem] theorem ty10 : tyT Try.prog 10 = .str := by kernel_rfl
@[go_sem] theorem zero10 : zeroT Try.prog 10 = some [.str ⟨#[]⟩] := by kernel_rfl
@[go_sem] theorem lay11 : layT Try.prog 11 = some ⟨false, 1⟩ := by kernel_rfl
@[go_sem] theorem ty11 : tyT Try.prog 11 = .str := by kernel_rfl
@[go_sem] theorem zero11 : zeroT Try.prog 11 = some [.str ⟨#[]⟩] := by kernel_rfl
@[go_sem] theorem lay12 : layT Try.prog 12 = some ⟨false, 1⟩ := by kernel_rfl
@[go_sem] theorem ty12 : tyT Try.prog 12 = .int .u64 := by kernel_rfl
@[go_sem] theorem zero12 : zeroT Try.prog 12 = some [.int .u64 0] := by kernel_rfl
@[go_sem] theorem lay13 : layT Try.prog 13 = some ⟨true, 2⟩ := by kernel_rfl
@[go_sem] theorem ty13 : tyT Try.prog 13 = .struct [⟨0, 1, false⟩, ⟨1, 1, false⟩] := by kernel_rfl
@[go_sem] theorem zero13 : zeroT Try.prog 13 = some [.str ⟨#[]⟩, .int .u64 0] := by kernel_rfl
@[go_sem] theorem lay14 : layT Try.prog 14 = some ⟨true, 2⟩ := by kernel_rfl
@[go_sem] theorem ty14 : tyT Try.prog 14 = .struct [⟨0, 1, false⟩, ⟨1, 1, false⟩] := by kernel_rfl
@[go_sem] theorem zero14 : zeroT Try.prog 14 = some [.str ⟨#[]⟩, .int .u64 0] := by kernel_rfl
@[go_sem] theorem lay15 : layT Try.prog 15 = some ⟨false, 1⟩ := by kernel_rfl
@[go_sem] theorem ty15 : tyT Try.prog 15 = .ptr := by kernel_rfl
@[go_sem] theorem zero15 : zeroT Try.prog 15 = some [.nilp] := by kernel_rfl
@[go_sem] theorem lay16 : layT Try.prog 16 = some ⟨false, 1⟩ := by kernel_rfl
@[go_sem] theorem ty16 : tyT Try.prog 16 = .ptr := by kernel_rfl
@[go_sem] theorem zero16 : zeroT Try.prog 16 = some [.nilp] := by kernel_rfl
@[go_sem] theorem lay17 : layT Try.prog 17 = some ⟨false, 1⟩ := by kernel_rfl
@[go_sem] theorem ty17 : tyT Try.prog 17 = .ptr := by kernel_rfl
@[go_sem] theorem zero17 : zeroT Try.prog 17 = some [.nilp] := by kernel_rfl
@[go_sem] theorem lay18 : layT Try.prog 18 = some ⟨true, 1⟩ := by kernel_rfl
@[go_sem] theorem ty18 : tyT Try.prog 18 = .struct [⟨0, 1, false⟩] := by kernel_rfl
@[go_sem] theorem zero18 : zeroT Try.prog 18 = some [.nilp] := by kernel_rfl
@[go_sem] theorem lay19 : layT Try.prog 19 = some ⟨true, 1⟩ := by kernel_rfl
@[go_sem] theorem ty19 : tyT Try.prog 19 = .struct [⟨0, 1, false⟩] := by kernel_rfl
@[go_sem] theorem zero19 : zeroT Try.prog 19 = some [.nilp] := by kernel_rfl
@[go_sem] theorem lay21 : layT Try.prog 21 = some ⟨false, 1⟩ := by kernel_rfl
@[go_sem] theorem ty21 : tyT Try.prog 21 = .int .i32 := by kernel_rfl
@[go_sem] theorem zero21 : zeroT Try.prog 21 = some [.int .i32 0] := by kernel_rfl
@[go_sem] theorem lay22 : layT Try.prog 22 = some ⟨false, 1⟩ := by kernel_rfl
@[go_sem] theorem ty22 : tyT Try.prog 22 = .slice 3 24 true := by kernel_rfl
@[go_sem] theorem zero22 : zeroT Try.prog 22 = some [.nil] := by kernel_rfl
@[go_sem] theorem zel22 : zeroElemT Try.prog 22 = some [.int .i64 0, .int .i64 0, .int .i64 0] := by kernel_rfl
@[go_sem] theorem lay23 : layT Try.prog 23 = some ⟨false, 1⟩ := by kernel_rfl
@[go_sem] theorem ty23 : tyT Try.prog 23 = .int .i64 := by kernel_rfl
@[go_sem] theorem zero23 : zeroT Try.prog 23 = some [.int .i64 0] := by kernel_rfl
@[go_sem] theorem lay24 : layT Try.prog 24 = some ⟨false, 1⟩ := by kernel_rfl
@[go_sem] theorem ty24 : tyT Try.prog 24 = .func := by kernel_rfl
@[go_sem] theorem zero24 : zeroT Try.prog 24 = some [.nilfn] := by kernel_rfl
@[go_sem] theorem lay26 : layT Try.prog 26 = some ⟨false, 1⟩ := by kernel_rfl
@[go_sem] theorem ty26 : tyT Try.prog 26 = .func := by kernel_rfl
@[go_sem] theorem zero26 : zeroT Try.prog 26 = some [.nilfn] := by kernel_rfl
@[go_sem] theorem lay27 : layT Try.prog 27 = some ⟨false, 1⟩ := by kernel_rfl
@[go_sem] theorem ty27 : tyT Try.prog 27 = .func := by kernel_rfl
@[go_sem] theorem zero27 : zeroT Try.prog 27 = some [.nilfn] := by kernel_rfl
@[go_sem] theorem lay28 : layT Try.prog 28 = some ⟨false, 1⟩ := by kernel_rfl
@[go_sem] theorem ty28 : tyT Try.prog 28 = .func := by kernel_rfl
@[go_sem] theorem zero28 : zeroT Try.prog 28 = some [.nilfn] := by kernel_rfl
@[go_sem] theorem lay29 : layT Try.prog 29 = some ⟨false, 1⟩ := by kernel_rfl
@[go_sem] theorem ty29 : tyT Try.prog 29 = .func := by kernel_rfl
@[go_sem] theorem zero29 : zeroT Try.prog 29 = some [.nilfn] := by kernel_rfl
@[go_sem] theorem lay30 : layT Try.prog 30 = some ⟨false, 1⟩ := by kernel_rfl
@[go_sem] theorem ty30 : tyT Try.prog 30 = .func := by kernel_rfl
@[go_sem] theorem zero30 : zeroT Try.prog 30 = some [.nilfn] := by kernel_rfl
@[go_sem] theorem lay31 : layT Try.prog 31 = some ⟨true, 4⟩ := by kernel_rfl
@[go_sem] theorem ty31 : tyT Try.prog 31 = .struct [⟨0, 1, false⟩, ⟨1, 1, false⟩, ⟨2, 1, false⟩, ⟨3, 1, false⟩] := by kernel_rfl
@[go_sem] theorem zero31 : zeroT Try.prog 31 = some [.int .i64 0, .int .i64 0, .int .i64 0, .int .i64 0] := by kernel_rfl
@[go_sem] theorem lvs31 : leavesT Try.prog 9 31 = some [.int, .int, .int, .int] := by kernel_rfl
@[go_sem] theorem isAgg31 : isAggT Try.prog 31 = true := by kernel_rfl
@[go_sem] theorem lay32 : layT Try.prog 32 = some ⟨true, 4⟩ := by kernel_rfl
@[go_sem] theorem ty32 : tyT Try.prog 32 = .struct [⟨0, 1, false⟩, ⟨1, 1, false⟩, ⟨2, 1, false⟩, ⟨3, 1, false⟩] := by kernel_rfl
@[go_sem] theorem zero32 : zeroT Try.prog 32 = some [.int .i64 0, .int .i64 0, .int .i64 0, .int .i64 0] := by kernel_rfl
@[go_sem] theorem lvs32 : leavesT Try.prog 9 32 = some [.int, .int, .int, .int] := by kernel_rfl
@[go_sem] theorem isAgg32 : isAggT Try.prog 32 = true := by kernel_rfl
@[go_sem] theorem lay34 : layT Try.prog 34 = some ⟨false, 1⟩ := by kernel_rfl
@[go_sem] theorem ty34 : tyT Try.prog 34 = .func := by kernel_rfl
@[go_sem] theorem zero34 : zeroT Try.prog 34 = some [.nilfn] := by kernel_rfl
@[go_sem] theorem lay35 : layT Try.prog 35 = some ⟨false, 1⟩ := by kernel_rfl
@[go_sem] theorem ty35 : tyT Try.prog 35 = .func := by kernel_rfl
@[go_sem] theorem zero35 : zeroT Try.prog 35 = some [.nilfn] := by kernel_rfl
@[go_sem] theorem lay36 : layT Try.prog 36 = some ⟨false, 1⟩ := by kernel_rfl
@[go_sem] theorem ty36 : tyT Try.prog 36 = .func := by kernel_rfl
@[go_sem] theorem zero36 : zeroT Try.prog 36 = some [.nilfn] := by kernel_rfl
@[go_sem] theorem lay37 : layT Try.prog 37 = some ⟨false, 1⟩ := by kernel_rfl
@[go_sem] theorem ty37 : tyT Try.prog 37 = .func := by kernel_rfl
@[go_sem] theorem zero37 : zeroT Try.prog 37 = some [.nilfn] := by kernel_rfl
@[go_sem] theorem lay38 : layT Try.prog 38 = some ⟨true, 3⟩ := by kernel_rfl
@[go_sem] theorem ty38 : tyT Try.prog 38 = .struct [⟨0, 1, false⟩, ⟨1, 1, false⟩, ⟨2, 1, false⟩] := by kernel_rfl
@[go_sem] theorem zero38 : zeroT Try.prog 38 = some [.int .i64 0, .int .i64 0, .int .i64 0] := by kernel_rfl
@[go_sem] theorem lvs38 : leavesT Try.prog 9 38 = some [.int, .int, .int] := by kernel_rfl
@[go_sem] theorem isAgg38 : isAggT Try.prog 38 = true := by kernel_rfl
@[go_sem] theorem lay39 : layT Try.prog 39 = some ⟨true, 3⟩ := by kernel_rfl
@[go_sem] theorem ty39 : tyT Try.prog 39 = .struct [⟨0, 1, false⟩, ⟨1, 1, false⟩, ⟨2, 1, false⟩] := by kernel_rfl
@[go_sem] theorem zero39 : zeroT Try.prog 39 = some [.int .i64 0, .int .i64 0, .int .i64 0] := by kernel_rfl
@[go_sem] theorem lvs39 : leavesT Try.prog 9 39 = some [.int, .int, .int] := by kernel_rfl
@[go_sem] theorem isAgg39 : isAggT Try.prog 39 = true := by kernel_rfl
@[go_sem] theorem lay40 : layT Try.prog 40 = some ⟨false, 1⟩ := by kernel_rfl
@[go_sem] theorem ty40 : tyT Try.prog 40 = .func := by kernel_rfl
@[go_sem] theorem zero40 : zeroT Try.prog 40 = some [.nilfn] := by kernel_rfl
@[go_sem] theorem lay41 : layT Try.prog 41 = some ⟨true, 3⟩ := by kernel_rfl
@[go_sem] theorem ty41 : tyT Try.prog 41 = .struct [⟨0, 1, false⟩, ⟨1, 1, false⟩, ⟨2, 1, false⟩] := by kernel_rfl
@[go_sem] theorem zero41 : zeroT Try.prog 41 = some [.int .i64 0, .int .i64 0, .int .i64 0] := by kernel_rfl
@[go_sem] theorem lvs41 : leavesT Try.prog 9 41 = some [.int, .int, .int] := by kernel_rfl
@[go_sem] theorem isAgg41 : isAggT Try.prog 41 = true := by kernel_rfl
@[go_sem] theorem lay42 : layT Try.prog 42 = some ⟨true, 3⟩ := by kernel_rfl
@[go_sem] theorem ty42 : tyT Try.prog 42 = .struct [⟨0, 1, false⟩, ⟨1, 1, false⟩, ⟨2, 1, false⟩] := by kernel_rfl
@[go_sem] theorem zero42 : zeroT Try.prog 42 = some [.int .i64 0, .int .i64 0, .int .i64 0] := by kernel_rfl
@[go_sem] theorem lvs42 : leavesT Try.prog 9 42 = some [.int, .int, .int] := by kernel_rfl
@[go_sem] theorem isAgg42 : isAggT Try.prog 42 = true := by kernel_rfl
@[go_sem] theorem lay43 : layT Try.prog 43 = some ⟨false, 1⟩ := by kernel_rfl
@[go_sem] theorem ty43 : tyT Try.prog 43 = .slice 3 24 true := by kernel_rfl
@[go_sem] theorem zero43 : zeroT Try.prog 43 = some [.nil] := by kernel_rfl
@[go_sem] theorem zel43 : zeroElemT Try.prog 43 = some [.int .i64 0, .int .i64 0, .int .i64 0] := by kernel_rfl
@[go_sem] theorem lay44 : layT Try.prog 44 = some ⟨false, 1⟩ := by kernel_rfl
@[go_sem] theorem ty44 : tyT Try.prog 44 = .slice 12 96 true := by kernel_rfl
@[go_sem] theorem zero44 : zeroT Try.prog 44 = some [.nil] := by kernel_rfl
@[go_sem] theorem zel44 : zeroElemT Try.prog 44 = some [.int .i64 0, .int .i64 0, .int .i64 0, .int .i64 0, .int .i64 0, .int .i64 0, .int .i64 0, .int .i64 0, .int .i64 0, .int .i64 0, .int .i64 0, .int .i64 0] := by kernel_rfl
@[go_sem] theorem lay45 : layT Try.prog 45 = some ⟨false, 1⟩ := by kernel_rfl
@[go_sem] theorem ty45 : tyT Try.prog 45 = .slice 4 32 true := by kernel_rfl
@[go_sem] theorem zero45 : zeroT Try.prog 45 = some [.nil] := by kernel_rfl
@[go_sem] theorem zel45 : zeroElemT Try.prog 45 = some [.int .i64 0, .int .i64 0, .int .i64 0, .int .i64 0] := by kernel_rfl
@[go_sem] theorem lay46 : layT Try.prog 46 = some ⟨true, 3⟩ := by kernel_rfl
@[go_sem] theorem ty46 : tyT Try.prog 46 = .struct [⟨0, 1, false⟩, ⟨1, 1, false⟩, ⟨2, 1, false⟩] := by kernel_rfl
@[go_sem] theorem zero46 : zeroT Try.prog 46 = some [.nil, .nil, .nil] := by kernel_rfl
@[go_sem] theorem lay47 : layT Try.prog 47 = some ⟨true, 3⟩ := by kernel_rfl
@[go_sem] theorem ty47 : tyT Try.prog 47 = .struct [⟨0, 1, false⟩, ⟨1, 1, false⟩, ⟨2, 1, false⟩] := by kernel_rfl
@[go_sem] theorem zero47 : zeroT Try.prog 47 = some [.nil, .nil, .nil] := by kernel_rfl
@[go_sem] theorem lay48 : layT Try.prog 48 = some ⟨false, 1⟩ := by kernel_rfl
@[go_sem] theorem ty48 : tyT Try.prog 48 = .slice 7 56 true := by kernel_rfl
@[go_sem] theorem zero48 : zeroT Try.prog 48 = some [.nil] := by kernel_rfl
@[go_sem] theorem zel48 : zeroElemT Try.prog 48 = some [.int .i64 0, .int .i64 0, .int .i64 0, .int .i64 0, .int .i64 0, .int .i64 0, .bool false] := by kernel_rfl
@[go_sem] theorem lay49 : layT Try.prog 49 = some ⟨false, 1⟩ := by kernel_rfl
@[go_sem] theorem ty49 : tyT Try.prog 49 = .slice 4 32 true := by kernel_rfl
@[go_sem] theorem zero49 : zeroT Try.prog 49 = some [.nil] := by kernel_rfl
@[go_sem] theorem zel49 : zeroElemT Try.prog 49 = some [.int .i64 0, .int .i64 0, .int .i64 0, .int .i64 0] := by kernel_rfl
@[go_sem] theorem lay50 : layT Try.prog 50 = some ⟨true, 3⟩ := by kernel_rfl
@[go_sem] theorem ty50 : tyT Try.prog 50 = .struct [⟨0, 1, false⟩, ⟨1, 1, false⟩, ⟨2, 1, false⟩] := by kernel_rfl
@[go_sem] theorem zero50 : zeroT Try.prog 50 = some [.int .i64 0, .nil, .nil] := by kernel_rfl
@[go_sem] theorem lay51 : layT Try.prog 51 = some ⟨true, 3⟩ := by kernel_rfl
@[go_sem] theorem ty51 : tyT Try.prog 51 = .struct [⟨0, 1, false⟩, ⟨1, 1, false⟩, ⟨2, 1, false⟩] := by kernel_rfl
@[go_sem] theorem zero51 : zeroT Try.prog 51 = some [.int .i64 0, .nil, .nil] := by kernel_rfl
@[go_sem] theorem lay52 : layT Try.prog 52 = some ⟨false, 1⟩ := by kernel_rfl
@[go_sem] theorem ty52 : tyT Try.prog 52 = .slice 4 32 true := by kernel_rfl
@[go_sem] theorem zero52 : zeroT Try.prog 52 = some [.nil] := by kernel_rfl
@[go_sem] theorem zel52 : zeroElemT Try.prog 52 = some [.int .i64 0, .int .i64 0, .int .i64 0, .int .i64 0] := by kernel_rfl
@[go_sem] theorem lay53 : layT Try.prog 53 = some ⟨true, 2⟩ := by kernel_rfl
@[go_sem] theorem ty53 : tyT Try.prog 53 = .struct [⟨0, 1, false⟩, ⟨1, 1, false⟩] := by kernel_rfl
@[go_sem] theorem zero53 : zeroT Try.prog 53 = some [.int .i64 0, .nil] := by kernel_rfl
@[go_sem] theorem lay54 : layT Try.prog 54 = some ⟨true, 2⟩ := by kernel_rfl
@[go_sem] theorem ty54 : tyT Try.prog 54 = .struct [⟨0, 1, false⟩, ⟨1, 1, false⟩] := by kernel_rfl
@[go_sem] theorem zero54 : zeroT Try.prog 54 = some [.int .i64 0, .nil] := by kernel_rfl
@[go_sem] theorem lay55 : layT Try.prog 55 = some ⟨false, 1⟩ := by kernel_rfl
@[go_sem] theorem ty55 : tyT Try.prog 55 = .slice 4 32 true := by kernel_rfl
@[go_sem] theorem zero55 : zeroT Try.prog 55 = some [.nil] := by kernel_rfl
@[go_sem] theorem zel55 : zeroElemT Try.prog 55 = some [.int .i64 0, .int .i64 0, .int .i64 0, .int .i64 0] := by kernel_rfl
@[go_sem] theorem lay56 : layT Try.prog 56 = some ⟨false, 1⟩ := by kernel_rfl
@[go_sem] theorem ty56 : tyT Try.prog 56 = .slice 5 40 true := by kernel_rfl
@[go_sem] theorem zero56 : zeroT Try.prog 56 = some [.nil] := by kernel_rfl
@[go_sem] theorem zel56 : zeroElemT Try.prog 56 = some [.int .i64 0, .int .i64 0, .int .i64 0, .int .i64 0, .int .i64 0] := by kernel_rfl
@[go_sem] theorem lay57 : layT Try.prog 57 = some ⟨false, 1⟩ := by kernel_rfl
@[go_sem] theorem ty57 : tyT Try.prog 57 = .slice 7 88 true := by kernel_rfl
@[go_sem] theorem zero57 : zeroT Try.prog 57 = some [.nil] := by kernel_rfl
@[go_sem] theorem zel57 : zeroElemT Try.prog 57 = some [.int .i64 0, .int .i64 0, .int .i64 0, .int .i64 0, .int .i64 0, .nil, .nil] := by kernel_rfl
@[go_sem] theorem lay58 : layT Try.prog 58 = some ⟨true, 15⟩ := by kernel_rfl
@[go_sem] theorem ty58 : tyT Try.prog 58 = .struct [⟨0, 3, true⟩, ⟨3, 3, true⟩, ⟨6, 3, true⟩, ⟨9, 2, true⟩, ⟨11, 1, false⟩, ⟨12, 1, false⟩, ⟨13, 1, false⟩, ⟨14, 1, false⟩] := by kernel_rfl
@[go_sem] theorem zero58 : zeroT Try.prog 58 = some [.int .i64 0, .int .i64 0, .int .i64 0, .nil, .nil, .nil, .int .i64 0, .nil, .nil, .int .i64 0, .nil, .nil, .nil, .nil, .nil] := by kernel_rfl
@[go_sem] theorem lay59 : layT Try.prog 59 = some ⟨true, 15⟩ := by kernel_rfl
@[go_sem] theorem ty59 : tyT Try.prog 59 = .struct [⟨0, 3, true⟩, ⟨3, 3, true⟩, ⟨6, 3, true⟩, ⟨9, 2, true⟩, ⟨11, 1, false⟩, ⟨12, 1, false⟩, ⟨13, 1, false⟩, ⟨14, 1, false⟩] := by kernel_rfl
@[go_sem] theorem zero59 : zeroT Try.prog 59 = some [.int .i64 0, .int .i64 0, .int .i64 0, .nil, .nil, .nil, .int .i64 0, .nil, .nil, .int .i64 0, .nil, .nil, .nil, .nil, .nil] := by kernel_rfl
@[go_sem] theorem lay60 : layT Try.prog 60 = some ⟨false, 1⟩ := by kernel_rfl
@[go_sem] theorem ty60 : tyT Try.prog 60 = .func := by kernel_rfl
@[go_sem] theorem zero60 : zeroT Try.prog 60 = some [.nilfn] := by kernel_rfl
@[go_sem] theorem lay61 : layT Try.prog 61 = some ⟨false, 1⟩ := by kernel_rfl
@[go_sem] theorem ty61 : tyT Try.prog 61 = .func := by kernel_rfl
@[go_sem] theorem zero61 : zeroT Try.prog 61 = some [.nilfn] := by kernel_rfl
@[go_sem] theorem lay62 : layT Try.prog 62 = some ⟨false, 1⟩ := by kernel_rfl
@[go_sem] theorem ty62 : tyT Try.prog 62 = .func := by kernel_rfl
@[go_sem] theorem zero62 : zeroT Try.prog 62 = some [.nilfn] := by kernel_rfl
@[go_sem] theorem lay63 : layT Try.prog 63 = some ⟨false, 1⟩ := by kernel_rfl
@[go_sem] theorem ty63 : tyT Try.prog 63 = .func := by kernel_rfl
@[go_sem] theorem zero63 : zeroT Try.prog 63 = some [.nilfn] := by kernel_rfl
@[go_sem] theorem lay64 : layT Try.prog 64 = some ⟨false, 1⟩ := by kernel_rfl
@[go_sem] theorem ty64 : tyT Try.prog 64 = .func := by kernel_rfl
@[go_sem] theorem zero64 : zeroT Try.prog 64 = some [.nilfn] := by kernel_rfl
@[go_sem] theorem lay65 : layT Try.prog 65 = some ⟨true, 3⟩ := by kernel_rfl
@[go_sem] theorem ty65 : tyT Try.prog 65 = .struct [⟨0, 1, false⟩, ⟨1, 1, false⟩, ⟨2, 1, false⟩] := by kernel_rfl
@[go_sem] theorem zero65 : zeroT Try.prog 65 = some [.int .i64 0, .int .i64 0, .int .i64 0] := by kernel_rfl
@[go_sem] theorem lvs65 : leavesT Try.prog 9 65 = some [.int, .int, .int] := by kernel_rfl
@[go_sem] theorem isAgg65 : isAggT Try.prog 65 = true := by kernel_rfl
@[go_sem] theorem lay66 : layT Try.prog 66 = some ⟨true, 3⟩ := by kernel_rfl
@[go_sem] theorem ty66 : tyT Try.prog 66 = .struct [⟨0, 1, false⟩, ⟨1, 1, false⟩, ⟨2, 1, false⟩] := by kernel_rfl
@[go_sem] theorem zero66 : zeroT Try.prog 66 = some [.int .i64 0, .int .i64 0, .int .i64 0] := by kernel_rfl
@[go_sem] theorem lvs66 : leavesT Try.prog 9 66 = some [.int, .int, .int] := by kernel_rfl
@[go_sem] theorem isAgg66 : isAggT Try.prog 66 = true := by kernel_rfl
@[go_sem] theorem lay67 : layT Try.prog 67 = some ⟨false, 1⟩ := by kernel_rfl
@[go_sem] theorem ty67 : tyT Try.prog 67 = .func := by kernel_rfl
@[go_sem] theorem zero67 : zeroT Try.prog 67 = some [.nilfn] := by kernel_rfl
@[go_sem] theorem lay68 : layT Try.prog 68 = some ⟨false, 1⟩ := by kernel_rfl
@[go_sem] theorem ty68 : tyT Try.prog 68 = .func := by kernel_rfl
@[go_sem] theorem zero68 : zeroT Try.prog 68 = some [.nilfn] := by kernel_rfl
@[go_sem] theorem lay69 : layT Try.prog 69 = some ⟨false, 1⟩ := by kernel_rfl
@[go_sem] theorem ty69 : tyT Try.prog 69 = .func := by kernel_rfl
@[go_sem] theorem zero69 : zeroT Try.prog 69 = some [.nilfn] := by kernel_rfl
@[go_sem] theorem lay70 : layT Try.prog 70 = some ⟨false, 1⟩ := by kernel_rfl
@[go_sem] theorem ty70 : tyT Try.prog 70 = .func := by kernel_rfl
@[go_sem] theorem zero70 : zeroT Try.prog 70 = some [.nilfn] := by kernel_rfl
@[go_sem] theorem lay71 : layT Try.prog 71 = some ⟨false, 1⟩ := by kernel_rfl
@[go_sem] theorem ty71 : tyT Try.prog 71 = .func := by kernel_rfl
@[go_sem] theorem zero71 : zeroT Try.prog 71 = some [.nilfn] := by kernel_rfl
@[go_sem] theorem lay73 : layT Try.prog 73 = some ⟨false, 1⟩ := by kernel_rfl
@[go_sem] theorem ty73 : tyT Try.prog 73 = .func := by kernel_rfl
@[go_sem] theorem zero73 : zeroT Try.prog 73 = some [.nilfn] := by kernel_rfl
@[go_sem] theorem lay74 : layT Try.prog 74 = some ⟨false, 1⟩ := by kernel_rfl
@[go_sem] theorem ty74 : tyT Try.prog 74 = .func := by kernel_rfl
@[go_sem] theorem zero74 : zeroT Try.prog 74 = some [.nilfn] := by kernel_rfl
@[go_sem] theorem lay75 : layT Try.prog 75 = some ⟨false, 1⟩ := by kernel_rfl
@[go_sem] theorem ty75 : tyT Try.prog 75 = .func := by kernel_rfl
@[go_sem] theorem zero75 : zeroT Try.prog 75 = some [.nilfn] := by kernel_rfl
@[go_sem] theorem lay76 : layT Try.prog 76 = some ⟨false, 1⟩ := by kernel_rfl
@[go_sem] theorem ty76 : tyT Try.prog 76 = .func := by kernel_rfl
@[go_sem] theorem zero76 : zeroT Try.prog 76 = some [.nilfn] := by kernel_rfl
@[go_sem] theorem lay77 : layT Try.prog 77 = some ⟨false, 1⟩ := by kernel_rfl
@[go_sem] theorem ty77 : tyT Try.prog 77 = .func := by kernel_rfl
@[go_sem] theorem zero77 : zeroT Try.prog 77 = some [.nilfn] := by kernel_rfl
@[go_sem] theorem lay78 : layT Try.prog 78 = some ⟨false, 1⟩ := by kernel_rfl
@[go_sem] theorem ty78 : tyT Try.prog 78 = .func := by kernel_rfl
@[go_sem] theorem zero78 : zeroT Try.prog 78 = some [.nilfn] := by kernel_rfl
@[go_sem] theorem lay79 : layT Try.prog 79 = some ⟨false, 1⟩ := by kernel_rfl
@[go_sem] theorem ty79 : tyT Try.prog 79 = .func := by kernel_rfl
@[go_sem] theorem zero79 : zeroT Try.prog 79 = some [.nilfn] := by kernel_rfl
@[go_sem] theorem lay80 : layT Try.prog 80 = some ⟨false, 1⟩ := by kernel_rfl
@[go_sem] theorem ty80 : tyT Try.prog 80 = .func := by kernel_rfl
@[go_sem] theorem zero80 : zeroT Try.prog 80 = some [.nilfn] := by kernel_rfl
@[go_sem] theorem lay82 : layT Try.prog 82 = some ⟨false, 1⟩ := by kernel_rfl
@[go_sem] theorem ty82 : tyT Try.prog 82 = .func := by kernel_rfl
@[go_sem] theorem zero82 : zeroT Try.prog 82 = some [.nilfn] := by kernel_rfl
@[go_sem] theorem lay83 : layT Try.prog 83 = some ⟨false, 1⟩ := by kernel_rfl
@[go_sem] theorem ty83 : tyT Try.prog 83 = .int .u64 := by kernel_rfl
@[go_sem] theorem zero83 : zeroT Try.prog 83 = some [.int .u64 0] := by kernel_rfl
@[go_sem] theorem lay84 : layT Try.prog 84 = some ⟨true, 2⟩ := by kernel_rfl
@[go_sem] theorem ty84 : tyT Try.prog 84 = .struct [⟨0, 1, false⟩, ⟨1, 1, false⟩] := by kernel_rfl
@[go_sem] theorem zero84 : zeroT Try.prog 84 = some [.int .i64 0, .int .u64 0] := by kernel_rfl
@[go_sem] theorem lvs84 : leavesT Try.prog 9 84 = some [.int, .int] := by kernel_rfl
@[go_sem] theorem isAgg84 : isAggT Try.prog 84 = true := by kernel_rfl
@[go_sem] theorem lay85 : layT Try.prog 85 = some ⟨true, 2⟩ := by kernel_rfl
@[go_sem] theorem ty85 : tyT Try.prog 85 = .struct [⟨0, 1, false⟩, ⟨1, 1, false⟩] := by kernel_rfl
@[go_sem] theorem zero85 : zeroT Try.prog 85 = some [.int .i64 0, .int .u64 0] := by kernel_rfl
@[go_sem] theorem lvs85 : leavesT Try.prog 9 85 = some [.int, .int] := by kernel_rfl
@[go_sem] theorem isAgg85 : isAggT Try.prog 85 = true := by kernel_rfl
@[go_sem] theorem lay86 : layT Try.prog 86 = some ⟨false, 1⟩ := by kernel_rfl
@[go_sem] theorem ty86 : tyT Try.prog 86 = .func := by kernel_rfl
@[go_sem] theorem zero86 : zeroT Try.prog 86 = some [.nilfn] := by kernel_rfl
@[go_sem] theorem lay87 : layT Try.prog 87 = some ⟨false, 1⟩ := by kernel_rfl
@[go_sem] theorem ty87 : tyT Try.prog 87 = .func := by kernel_rfl
@[go_sem] theorem zero87 : zeroT Try.prog 87 = some [.nilfn] := by kernel_rfl
@[go_sem] theorem lay88 : layT Try.prog 88 = some ⟨false, 1⟩ := by kernel_rfl
@[go_sem] theorem ty88 : tyT Try.prog 88 = .func := by kernel_rfl
@[go_sem] theorem zero88 : zeroT Try.prog 88 = some [.nilfn] := by kernel_rfl
@[go_sem] theorem lay89 : layT Try.prog 89 = some ⟨false, 1⟩ := by kernel_rfl
@[go_sem] theorem ty89 : tyT Try.prog 89 = .func := by kernel_rfl
@[go_sem] theorem zero89 : zeroT Try.prog 89 = some [.nilfn] := by kernel_rfl
@[go_sem] theorem lay90 : layT Try.prog 90 = some ⟨false, 1⟩ := by kernel_rfl
@[go_sem] theorem ty90 : tyT Try.prog 90 = .func := by kernel_rfl
@[go_sem] theorem zero90 : zeroT Try.prog 90 = some [.nilfn] := by kernel_rfl
@[go_sem] theorem lay91 : layT Try.prog 91 = some ⟨false, 1⟩ := by kernel_rfl
@[go_sem] theorem ty91 : tyT Try.prog 91 = .func := by kernel_rfl
@[go_sem] theorem zero91 : zeroT Try.prog 91 = some [.nilfn] := by kernel_rfl
@[go_sem] theorem lay92 : layT Try.prog 92 = some ⟨false, 1⟩ := by kernel_rfl
@[go_sem] theorem ty92 : tyT Try.prog 92 = .func := by kernel_rfl
@[go_sem] theorem zero92 : zeroT Try.prog 92 = some [.nilfn] := by kernel_rfl
@[go_sem] theorem lay93 : layT Try.prog 93 = some ⟨false, 1⟩ := by kernel_rfl
@[go_sem] theorem ty93 : tyT Try.prog 93 = .func := by kernel_rfl
@[go_sem] theorem zero93 : zeroT Try.prog 93 = some [.nilfn] := by kernel_rfl
@[go_sem] theorem lay94 : layT Try.prog 94 = some ⟨false, 1⟩ := by kernel_rfl
@[go_sem] theorem ty94 : tyT Try.prog 94 = .func := by kernel_rfl
@[go_sem] theorem zero94 : zeroT Try.prog 94 = some [.nilfn] := by kernel_rfl
@[go_sem] theorem lay95 : layT Try.prog 95 = some ⟨false, 1⟩ := by kernel_rfl
@[go_sem] theorem ty95 : tyT Try.prog 95 = .slice 1 8 false := by kernel_rfl
@[go_sem] theorem zero95 : zeroT Try.prog 95 = some [.nil] := by kernel_rfl
@[go_sem] theorem zel95 : zeroElemT Try.prog 95 = some [.int .i64 0] := by kernel_rfl
@[go_sem] theorem lay97 : layT Try.prog 97 = some ⟨false, 1⟩ := by kernel_rfl
@[go_sem] theorem ty97 : tyT Try.prog 97 = .func := by kernel_rfl
@[go_sem] theorem zero97 : zeroT Try.prog 97 = some [.nilfn] := by kernel_rfl
@[go_sem] theorem lay98 : layT Try.prog 98 = some ⟨false, 1⟩ := by kernel_rfl
@[go_sem] theorem ty98 : tyT Try.prog 98 = .func := by kernel_rfl
@[go_sem] theorem zero98 : zeroT Try.prog 98 = some [.nilfn] := by kernel_rfl
@[go_sem] theorem lay99 : layT Try.prog 99 = some ⟨true, 6⟩ := by kernel_rfl
@[go_sem] theorem ty99 : tyT Try.prog 99 = .arr 6 1 false := by kernel_rfl
@[go_sem] theorem zero99 : zeroT Try.prog 99 = some [.int .i64 0, .int .i64 0, .int .i64 0, .int .i64 0, .int .i64 0, .int .i64 0] := by kernel_rfl
@[go_sem] theorem lvs99 : leavesT Try.prog 9 99 = some [.int, .int, .int, .int, .int, .int] := by kernel_rfl
@[go_sem] theorem isAgg99 : isAggT Try.prog 99 = true := by kernel_rfl
@[go_sem] theorem lay101 : layT Try.prog 101 = some ⟨false, 1⟩ := by kernel_rfl
@[go_sem] theorem ty101 : tyT Try.prog 101 = .func := by kernel_rfl
@[go_sem] theorem zero101 : zeroT Try.prog 101 = some [.nilfn] := by kernel_rfl
@[go_sem] theorem lay102 : layT Try.prog 102 = some ⟨false, 1⟩ := by kernel_rfl
@[go_sem] theorem ty102 : tyT Try.prog 102 = .func := by kernel_rfl
@[go_sem] theorem zero102 : zeroT Try.prog 102 = some [.nilfn] := by kernel_rfl
@[go_sem] theorem lay103 : layT Try.prog 103 = some ⟨false, 1⟩ := by kernel_rfl
@[go_sem] theorem ty103 : tyT Try.prog 103 = .slice 2 16 true := by kernel_rfl
@[go_sem] theorem zero103 : zeroT Try.prog 103 = some [.nil] := by kernel_rfl
@[go_sem] theorem zel103 : zeroElemT Try.prog 103 = some [.int .i64 0, .int .u64 0] := by kernel_rfl
@[go_sem] theorem lay104 : layT Try.prog 104 = some ⟨true, 12⟩ := by kernel_rfl
@[go_sem] theorem ty104 : tyT Try.prog 104 = .struct [⟨0, 1, false⟩, ⟨1, 1, false⟩, ⟨2, 1, false⟩, ⟨3, 1, false⟩, ⟨4, 1, false⟩, ⟨5, 1, false⟩, ⟨6, 6, true⟩] := by kernel_rfl
@[go_sem] theorem zero104 : zeroT Try.prog 104 = some [.int .i64 0, .int .i64 0, .int .i64 0, .int .i64 0, .int .i64 0, .int .i64 0, .int .i64 0, .int .i64 0, .int .i64 0, .int .i64 0, .int .i64 0, .int .i64 0] := by kernel_rfl
@[go_sem] theorem lvs104 : leavesT Try.prog 9 104 = some [.int, .int, .int, .int, .int, .int, .int, .int, .int, .int, .int, .int] := by kernel_rfl
@[go_sem] theorem isAgg104 : isAggT Try.prog 104 = true := by kernel_rfl
@[go_sem] theorem lay105 : layT Try.prog 105 = some ⟨true, 12⟩ := by kernel_rfl
@[go_sem] theorem ty105 : tyT Try.prog 105 = .struct [⟨0, 1, false⟩, ⟨1, 1, false⟩, ⟨2, 1, false⟩, ⟨3, 1, false⟩, ⟨4, 1, false⟩, ⟨5, 1, false⟩, ⟨6, 6, true⟩] := by kernel_rfl
@[go_sem] theorem zero105 : zeroT Try.prog 105 = some [.int .i64 0, .int .i64 0, .int .i64 0, .int .i64 0, .int .i64 0, .int .i64 0, .int .i64 0, .int .i64 0, .int .i64 0, .int .i64 0, .int .i64 0, .int .i64 0] := by kernel_rfl
@[go_sem] theorem lvs105 : leavesT Try.prog 9 105 = some [.int, .int, .int, .int, .int, .int, .int, .int, .int, .int, .int, .int] := by kernel_rfl
@[go_sem] theorem isAgg105 : isAggT Try.prog 105 = true := by kernel_rfl
@[go_sem] theorem lay107 : layT Try.prog 107 = some ⟨false, 1⟩ := by kernel_rfl
@[go_sem] theorem ty107 : tyT Try.prog 107 = .func := by kernel_rfl
@[go_sem] theorem zero107 : zeroT Try.prog 107 = some [.nilfn] := by kernel_rfl
@[go_sem] theorem lay108 : layT Try.prog 108 = some ⟨true, 2⟩ := by kernel_rfl
@[go_sem] theorem ty108 : tyT Try.prog 108 = .struct [⟨0, 1, false⟩, ⟨1, 1, false⟩] := by kernel_rfl
@[go_sem] theorem zero108 : zeroT Try.prog 108 = some [.int .i64 0, .int .i64 0] := by kernel_rfl
@[go_sem] theorem lvs108 : leavesT Try.prog 9 108 = some [.int, .int] := by kernel_rfl
@[go_sem] theorem isAgg108 : isAggT Try.prog 108 = true := by kernel_rfl
@[go_sem] theorem lay109 : layT Try.prog 109 = some ⟨true, 2⟩ := by kernel_rfl
@[go_sem] theorem ty109 : tyT Try.prog 109 = .struct [⟨0, 1, false⟩, ⟨1, 1, false⟩] := by kernel_rfl
@[go_sem] theorem zero109 : zeroT Try.prog 109 = some [.int .i64 0, .int .i64 0] := by kernel_rfl
@[go_sem] theorem lvs109 : leavesT Try.prog 9 109 = some [.int, .int] := by kernel_rfl
@[go_sem] theorem isAgg109 : isAggT Try.prog 109 = true := by kernel_rfl
@[go_sem] theorem lay110 : layT Try.prog 110 = some ⟨true, 4⟩ := by kernel_rfl
@[go_sem] theorem ty110 : tyT Try.prog 110 = .struct [⟨0, 2, true⟩, ⟨2, 1, false⟩, ⟨3, 1, false⟩] := by kernel_rfl
@[go_sem] theorem zero110 : zeroT Try.prog 110 = some [.int .i64 0, .int .i64 0, .int .i64 0, .int .i64 0] := by kernel_rfl
@[go_sem] theorem lvs110 : leavesT Try.prog 9 110 = some [.int, .int, .int, .int] := by kernel_rfl
@[go_sem] theorem isAgg110 : isAggT Try.prog 110 = true := by kernel_rfl
@[go_sem] theorem lay111 : layT Try.prog 111 = some ⟨true, 4⟩ := by kernel_rfl
@[go_sem] theorem ty111 : tyT Try.prog 111 = .struct [⟨0, 2, true⟩, ⟨2, 1, false⟩, ⟨3, 1, false⟩] := by kernel_rfl
@[go_sem] theorem zero111 : zeroT Try.prog 111 = some [.int .i64 0, .int .i64 0, .int .i64 0, .int .i64 0] := by kernel_rfl
@[go_sem] theorem lvs111 : leavesT Try.prog 9 111 = some [.int, .int, .int, .int] := by kernel_rfl
@[go_sem] theorem isAgg111 : isAggT Try.prog 111 = true := by kernel_rfl
@[go_sem] theorem lay113 : layT Try.prog 113 = some ⟨false, 1⟩ := by kernel_rfl
@[go_sem] theorem ty113 : tyT Try.prog 113 = .func := by kernel_rfl
@[go_sem] theorem zero113 : zeroT Try.prog 113 = some [.nilfn] := by kernel_rfl
@[go_sem] theorem lay114 : layT Try.prog 114 = some ⟨false, 1⟩ := by kernel_rfl
@[go_sem] theorem ty114 : tyT Try.prog 114 = .func := by kernel_rfl
@[go_sem] theorem zero114 : zeroT Try.prog 114 = some [.nilfn] := by kernel_rfl
@[go_sem] theorem lay115 : layT Try.prog 115 = some ⟨false, 1⟩ := by kernel_rfl
@[go_sem] theorem ty115 : tyT Try.prog 115 = .func := by kernel_rfl
@[go_sem] theorem zero115 : zeroT Try.prog 115 = some [.nilfn] := by kernel_rfl
@[go_sem] theorem lay116 : layT Try.prog 116 = some ⟨false, 1⟩ := by kernel_rfl
@[go_sem] theorem ty116 : tyT Try.prog 116 = .func := by kernel_rfl
@[go_sem] theorem zero116 : zeroT Try.prog 116 = some [.nilfn] := by kernel_rfl
@[go_sem] theorem lay117 : layT Try.prog 117 = some ⟨false, 1⟩ := by kernel_rfl
@[go_sem] theorem ty117 : tyT Try.prog 117 = .func := by kernel_rfl
@[go_sem] theorem zero117 : zeroT Try.prog 117 = some [.nilfn] := by kernel_rfl
@[go_sem] theorem lay118 : layT Try.prog 118 = some ⟨false, 1⟩ := by kernel_rfl
@[go_sem] theorem ty118 : tyT Try.prog 118 = .slice 3 24 true := by kernel_rfl
@[go_sem] theorem zero118 : zeroT Try.prog 118 = some [.nil] := by kernel_rfl
@[go_sem] theorem zel118 : zeroElemT Try.prog 118 = some [.int .i64 0, .int .i64 0, .int .i64 0] := by kernel_rfl
@[go_sem] theorem lay119 : layT Try.prog 119 = some ⟨false, 1⟩ := by kernel_rfl
@[go_sem] theorem ty119 : tyT Try.prog 119 = .slice 8 64 true := by kernel_rfl
@[go_sem] theorem zero119 : zeroT Try.prog 119 = some [.nil] := by kernel_rfl
@[go_sem] theorem zel119 : zeroElemT Try.prog 119 = some [.int .i64 0, .int .i64 0, .int .i64 0, .int .i64 0, .int .i64 0, .int .i64 0, .int .i64 0, .int .i64 0] := by kernel_rfl
@[go_sem] theorem lay120 : layT Try.prog 120 = some ⟨true, 5⟩ := by kernel_rfl
@[go_sem] theorem ty120 : tyT Try.prog 120 = .struct [⟨0, 1, false⟩, ⟨1, 1, false⟩, ⟨2, 1, false⟩, ⟨3, 1, false⟩, ⟨4, 1, false⟩] := by kernel_rfl
@[go_sem] theorem zero120 : zeroT Try.prog 120 = some [.int .i64 0, .int .i64 0, .int .i64 0, .nil, .nil] := by kernel_rfl
@[go_sem] theorem lay121 : layT Try.prog 121 = some ⟨true, 5⟩ := by kernel_rfl
@[go_sem] theorem ty121 : tyT Try.prog 121 = .struct [⟨0, 1, false⟩, ⟨1, 1, false⟩, ⟨2, 1, false⟩, ⟨3, 1, false⟩, ⟨4, 1, false⟩] := by kernel_rfl
@[go_sem] theorem zero121 : zeroT Try.prog 121 = some [.int .i64 0, .int .i64 0, .int .i64 0, .nil, .nil] := by kernel_rfl
@[go_sem] theorem lay122 : layT Try.prog 122 = some ⟨true, 7⟩ := by kernel_rfl
@[go_sem] theorem ty122 : tyT Try.prog 122 = .struct [⟨0, 1, false⟩, ⟨1, 1, false⟩, ⟨2, 5, true⟩] := by kernel_rfl
@[go_sem] theorem zero122 : zeroT Try.prog 122 = some [.int .i64 0, .int .i64 0, .int .i64 0, .int .i64 0, .int .i64 0, .nil, .nil] := by kernel_rfl
@[go_sem] theorem lay123 : layT Try.prog 123 = some ⟨true, 7⟩ := by kernel_rfl
@[go_sem] theorem ty123 : tyT Try.prog 123 = .struct [⟨0, 1, false⟩, ⟨1, 1, false⟩, ⟨2, 5, true⟩] := by kernel_rfl
@[go_sem] theorem zero123 : zeroT Try.prog 123 = some [.int .i64 0, .int .i64 0, .int .i64 0, .int .i64 0, .int .i64 0, .nil, .nil] := by kernel_rfl
@[go_sem] theorem lay124 : layT Try.prog 124 = some ⟨false, 1⟩ := by kernel_rfl
@[go_sem] theorem ty124 : tyT Try.prog 124 = .func := by kernel_rfl
@[go_sem] theorem zero124 : zeroT Try.prog 124 = some [.nilfn] := by kernel_rfl
@[go_sem] theorem lay125 : layT Try.prog 125 = some ⟨true, 2⟩ := by kernel_rfl
@[go_sem] theorem ty125 : tyT Try.prog 125 = .arr 2 1 false := by kernel_rfl
@[go_sem] theorem zero125 : zeroT Try.prog 125 = some [.bool false, .bool false] := by kernel_rfl
@[go_sem] theorem lvs125 : leavesT Try.prog 9 125 = some [.bool, .bool] := by kernel_rfl
@[go_sem] theorem isAgg125 : isAggT Try.prog 125 = true := by kernel_rfl
@[go_sem] theorem lay126 : layT Try.prog 126 = some ⟨false, 1⟩ := by kernel_rfl
@[go_sem] theorem ty126 : tyT Try.prog 126 = .func := by kernel_rfl
@[go_sem] theorem zero126 : zeroT Try.prog 126 = some [.nilfn] := by kernel_rfl
@[go_sem] theorem lay127 : layT Try.prog 127 = some ⟨true, 4⟩ := by kernel_rfl
@[go_sem] theorem ty127 : tyT Try.prog 127 = .struct [⟨0, 3, true⟩, ⟨3, 1, false⟩] := by kernel_rfl
@[go_sem] theorem zero127 : zeroT Try.prog 127 = some [.int .i64 0, .int .i64 0, .int .i64 0, .int .i64 0] := by kernel_rfl
@[go_sem] theorem lvs127 : leavesT Try.prog 9 127 = some [.int, .int, .int, .int] := by kernel_rfl
@[go_sem] theorem isAgg127 : isAggT Try.prog 127 = true := by kernel_rfl
@[go_sem] theorem lay128 : layT Try.prog 128 = some ⟨true, 4⟩ := by kernel_rfl
@[go_sem] theorem ty128 : tyT Try.prog 128 = .struct [⟨0, 3, true⟩, ⟨3, 1, false⟩] := by kernel_rfl
@[go_sem] theorem zero128 : zeroT Try.prog 128 = some [.int .i64 0, .int .i64 0, .int .i64 0, .int .i64 0] := by kernel_rfl
@[go_sem] theorem lvs128 : leavesT Try.prog 9 128 = some [.int, .int, .int, .int] := by kernel_rfl
@[go_sem] theorem isAgg128 : isAggT Try.prog 128 = true := by kernel_rfl
@[go_sem] theorem lay129 : layT Try.prog 129 = some ⟨false, 1⟩ := by kernel_rfl
@[go_sem] theorem ty129 : tyT Try.prog 129 = .int .u64 := by kernel_rfl
@[go_sem] theorem zero129 : zeroT Try.prog 129 = some [.int .u64 0] := by kernel_rfl
@[go_sem] theorem lay130 : layT Try.prog 130 = some ⟨false, 1⟩ := by kernel_rfl
@[go_sem] theorem ty130 : tyT Try.prog 130 = .func := by kernel_rfl
@[go_sem] theorem zero130 : zeroT Try.prog 130 = some [.nilfn] := by kernel_rfl
@[go_sem] theorem lay131 : layT Try.prog 131 = some ⟨false, 1⟩ := by kernel_rfl
@[go_sem] theorem ty131 : tyT Try.prog 131 = .func := by kernel_rfl
@[go_sem] theorem zero131 : zeroT Try.prog 131 = some [.nilfn] := by kernel_rfl
@[go_sem] theorem lay132 : layT Try.prog 132 = some ⟨true, 3⟩ := by kernel_rfl
@[go_sem] theorem ty132 : tyT Try.prog 132 = .struct [⟨0, 1, false⟩, ⟨1, 1, false⟩, ⟨2, 1, false⟩] := by kernel_rfl
@[go_sem] theorem zero132 : zeroT Try.prog 132 = some [.int .i64 0, .int .i64 0, .int .i64 0] := by kernel_rfl
@[go_sem] theorem lvs132 : leavesT Try.prog 9 132 = some [.int, .int, .int] := by kernel_rfl
@[go_sem] theorem isAgg132 : isAggT Try.prog 132 = true := by kernel_rfl
@[go_sem] theorem lay133 : layT Try.prog 133 = some ⟨true, 3⟩ := by kernel_rfl
@[go_sem] theorem ty133 : tyT Try.prog 133 = .struct [⟨0, 1, false⟩, ⟨1, 1, false⟩, ⟨2, 1, false⟩] := by kernel_rfl
@[go_sem] theorem zero133 : zeroT Try.prog 133 = some [.int .i64 0, .int .i64 0, .int .i64 0] := by kernel_rfl
@[go_sem] theorem lvs133 : leavesT Try.prog 9 133 = some [.int, .int, .int] := by kernel_rfl
@[go_sem] theorem isAgg133 : isAggT Try.prog 133 = true := by kernel_rfl
@[go_sem] theorem lay134 : layT Try.prog 134 = some ⟨false, 1⟩ := by kernel_rfl
@[go_sem] theorem ty134 : tyT Try.prog 134 = .func := by kernel_rfl
@[go_sem] theorem zero134 : zeroT Try.prog 134 = some [.nilfn] := by kernel_rfl
@[go_sem] theorem lay135 : layT Try.prog 135 = some ⟨false, 1⟩ := by kernel_rfl
@[go_sem] theorem ty135 : tyT Try.prog 135 = .func := by kernel_rfl
@[go_sem] theorem zero135 : zeroT Try.prog 135 = some [.nilfn] := by kernel_rfl
@[go_sem] theorem lay136 : layT Try.prog 136 = some ⟨false, 1⟩ := by kernel_rfl
@[go_sem] theorem ty136 : tyT Try.prog 136 = .func := by kernel_rfl
@[go_sem] theorem zero136 : zeroT Try.prog 136 = some [.nilfn] := by kernel_rfl
@[go_sem] theorem lay137 : layT Try.prog 137 = some ⟨false, 1⟩ := by kernel_rfl
@[go_sem] theorem ty137 : tyT Try.prog 137 = .func := by kernel_rfl
@[go_sem] theorem zero137 : zeroT Try.prog 137 = some [.nilfn] := by kernel_rfl
@[go_sem] theorem lay138 : layT Try.prog 138 = some ⟨false, 1⟩ := by kernel_rfl
@[go_sem] theorem ty138 : tyT Try.prog 138 = .func := by kernel_rfl
@[go_sem] theorem zero138 : zeroT Try.prog 138 = some [.nilfn] := by kernel_rfl
@[go_sem] theorem lay139 : layT Try.prog 139 = some ⟨false, 1⟩ := by kernel_rfl
@[go_sem] theorem ty139 : tyT Try.prog 139 = .func := by kernel_rfl
@[go_sem] theorem zero139 : zeroT Try.prog 139 = some [.nilfn] := by kernel_rfl
@[go_sem] theorem lay140 : layT Try.prog 140 = some ⟨false, 1⟩ := by kernel_rfl
@[go_sem] theorem ty140 : tyT Try.prog 140 = .func := by kernel_rfl
@[go_sem] theorem zero140 : zeroT Try.prog 140 = some [.nilfn] := by kernel_rfl
@[go_sem] theorem lay142 : layT Try.prog 142 = some ⟨false, 1⟩ := by kernel_rfl
@[go_sem] theorem ty142 : tyT Try.prog 142 = .func := by kernel_rfl
@[go_sem] theorem zero142 : zeroT Try.prog 142 = some [.nilfn] := by kernel_rfl
@[go_sem] theorem lay144 : layT Try.prog 144 = some ⟨false, 1⟩ := by kernel_rfl
@[go_sem] theorem ty144 : tyT Try.prog 144 = .func := by kernel_rfl
@[go_sem] theorem zero144 : zeroT Try.prog 144 = some [.nilfn] := by kernel_rfl
@[go_sem] theorem lay145 : layT Try.prog 145 = some ⟨false, 1⟩ := by kernel_rfl
@[go_sem] theorem ty145 : tyT Try.prog 145 = .func := by kernel_rfl
@[go_sem] theorem zero145 : zeroT Try.prog 145 = some [.nilfn] := by kernel_rfl
@[go_sem] theorem lay146 : layT Try.prog 146 = some ⟨false, 1⟩ := by kernel_rfl
@[go_sem] theorem ty146 : tyT Try.prog 146 = .func := by kernel_rfl
@[go_sem] theorem zero146 : zeroT Try.prog 146 = some [.nilfn] := by kernel_rfl
@[go_sem] theorem lay147 : layT Try.prog 147 = some ⟨false, 1⟩ := by kernel_rfl
@[go_sem] theorem ty147 : tyT Try.prog 147 = .func := by kernel_rfl
@[go_sem] theorem zero147 : zeroT Try.prog 147 = some [.nilfn] := by kernel_rfl
@[go_sem] theorem lay148 : layT Try.prog 148 = some ⟨false, 1⟩ := by kernel_rfl
@[go_sem] theorem ty148 : tyT Try.prog 148 = .func := by kernel_rfl
@[go_sem] theorem zero148 : zeroT Try.prog 148 = some [.nilfn] := by kernel_rfl
@[go_sem] theorem lay149 : layT Try.prog 149 = some ⟨false, 1⟩ := by kernel_rfl
@[go_sem] theorem ty149 : tyT Try.prog 149 = .func := by kernel_rfl
@[go_sem] theorem zero149 : zeroT Try.prog 149 = some [.nilfn] := by kernel_rfl
@[go_sem] theorem lay150 : layT Try.prog 150 = some ⟨false, 1⟩ := by kernel_rfl
@[go_sem] theorem ty150 : tyT Try.prog 150 = .func := by kernel_rfl
@[go_sem] theorem zero150 : zeroT Try.prog 150 = some [.nilfn] := by kernel_rfl
@[go_sem] theorem lay151 : layT Try.prog 151 = some ⟨true, 7⟩ := by kernel_rfl
@[go_sem] theorem ty151 : tyT Try.prog 151 = .struct [⟨0, 1, false⟩, ⟨1, 1, false⟩, ⟨2, 1, false⟩, ⟨3, 1, false⟩, ⟨4, 1, false⟩, ⟨5, 1, false⟩, ⟨6, 1, false⟩] := by kernel_rfl
@[go_sem] theorem zero151 : zeroT Try.prog 151 = some [.int .i64 0, .int .i64 0, .int .i64 0, .int .i64 0, .int .i64 0, .int .i64 0, .bool false] := by kernel_rfl
@[go_sem] theorem lvs151 : leavesT Try.prog 9 151 = some [.int, .int, .int, .int, .int, .int, .bool] := by kernel_rfl
@[go_sem] theorem isAgg151 : isAggT Try.prog 151 = true := by kernel_rfl
@[go_sem] theorem lay152 : layT Try.prog 152 = some ⟨true, 7⟩ := by kernel_rfl
@[go_sem] theorem ty152 : tyT Try.prog 152 = .struct [⟨0, 1, false⟩, ⟨1, 1, false⟩, ⟨2, 1, false⟩, ⟨3, 1, false⟩, ⟨4, 1, false⟩, ⟨5, 1, false⟩, ⟨6, 1, false⟩] := by kernel_rfl
@[go_sem] theorem zero152 : zeroT Try.prog 152 = some [.int .i64 0, .int .i64 0, .int .i64 0, .int .i64 0, .int .i64 0, .int .i64 0, .bool false] := by kernel_rfl
@[go_sem] theorem lvs152 : leavesT Try.prog 9 152 = some [.int, .int, .int, .int, .int, .int, .bool] := by kernel_rfl
@[go_sem] theorem isAgg152 : isAggT Try.prog 152 = true := by kernel_rfl
@[go_sem] theorem lay153 : layT Try.prog 153 = some ⟨false, 1⟩ := by kernel_rfl
@[go_sem] theorem ty153 : tyT Try.prog 153 = .func := by kernel_rfl
@[go_sem] theorem zero153 : zeroT Try.prog 153 = some [.nilfn] := by kernel_rfl
@[go_sem] theorem lay154 : layT Try.prog 154 = some ⟨false, 1⟩ := by kernel_rfl
@[go_sem] theorem ty154 : tyT Try.prog 154 = .func := by kernel_rfl
@[go_sem] theorem zero154 : zeroT Try.prog 154 = some [.nilfn] := by kernel_rfl
@[go_sem] theorem lay155 : layT Try.prog 155 = some ⟨false, 1⟩ := by kernel_rfl
@[go_sem] theorem ty155 : tyT Try.prog 155 = .func := by kernel_rfl
@[go_sem] theorem zero155 : zeroT Try.prog 155 = some [.nilfn] := by kernel_rfl
@[go_sem] theorem lay156 : layT Try.prog 156 = some ⟨false, 1⟩ := by kernel_rfl
@[go_sem] theorem ty156 : tyT Try.prog 156 = .slice 13 104 true := by kernel_rfl
@[go_sem] theorem zero156 : zeroT Try.prog 156 = some [.nil] := by kernel_rfl
@[go_sem] theorem zel156 : zeroElemT Try.prog 156 = some [.int .i64 0, .int .i64 0, .int .i64 0, .int .i64 0, .int .i64 0, .int .i64 0, .int .i64 0, .int .i64 0, .int .i64 0, .int .i64 0, .int .i64 0, .int .i64 0, .int .i64 0] := by kernel_rfl
@[go_sem] theorem lay158 : layT Try.prog 158 = some ⟨false, 1⟩ := by kernel_rfl
@[go_sem] theorem ty158 : tyT Try.prog 158 = .func := by kernel_rfl
@[go_sem] theorem zero158 : zeroT Try.prog 158 = some [.nilfn] := by kernel_rfl
@[go_sem] theorem lay159 : layT Try.prog 159 = some ⟨true, 13⟩ := by kernel_rfl
@[go_sem] theorem ty159 : tyT Try.prog 159 = .struct [⟨0, 12, true⟩, ⟨12, 1, false⟩] := by kernel_rfl
@[go_sem] theorem zero159 : zeroT Try.prog 159 = some [.int .i64 0, .int .i64 0, .int .i64 0, .int .i64 0, .int .i64 0, .int .i64 0, .int .i64 0, .int .i64 0, .int .i64 0, .int .i64 0, .int .i64 0, .int .i64 0, .int .i64 0] := by kernel_rfl
@[go_sem] theorem lvs159 : leavesT Try.prog 9 159 = some [.int, .int, .int, .int, .int, .int, .int, .int, .int, .int, .int, .int, .int] := by kernel_rfl
@[go_sem] theorem isAgg159 : isAggT Try.prog 159 = true := by kernel_rfl
@[go_sem] theorem lay160 : layT Try.prog 160 = some ⟨true, 13⟩ := by kernel_rfl
@[go_sem] theorem ty160 : tyT Try.prog 160 = .struct [⟨0, 12, true⟩, ⟨12, 1, false⟩] := by kernel_rfl
@[go_sem] theorem zero160 : zeroT Try.prog 160 = some [.int .i64 0, .int .i64 0, .int .i64 0, .int .i64 0, .int .i64 0, .int .i64 0, .int .i64 0, .int .i64 0, .int .i64 0, .int .i64 0, .int .i64 0, .int .i64 0, .int .i64 0] := by kernel_rfl
@[go_sem] theorem lvs160 : leavesT Try.prog 9 160 = some [.int, .int, .int, .int, .int, .int, .int, .int, .int, .int, .int, .int, .int] := by kernel_rfl
@[go_sem] theorem isAgg160 : isAggT Try.prog 160 = true := by kernel_rfl
@[go_sem] theorem lay162 : layT Try.prog 162 = some ⟨false, 1⟩ := by kernel_rfl
@[go_sem] theorem ty162 : tyT Try.prog 162 = .func := by kernel_rfl
@[go_sem] theorem zero162 : zeroT Try.prog 162 = some [.nilfn] := by kernel_rfl
@[go_sem] theorem lay163 : layT Try.prog 163 = some ⟨false, 1⟩ := by kernel_rfl
@[go_sem] theorem ty163 : tyT Try.prog 163 = .func := by kernel_rfl
@[go_sem] theorem zero163 : zeroT Try.prog 163 = some [.nilfn] := by kernel_rfl
@[go_sem] theorem lay164 : layT Try.prog 164 = some ⟨false, 1⟩ := by kernel_rfl
@[go_sem] theorem ty164 : tyT Try.prog 164 = .func := by kernel_rfl
@[go_sem] theorem zero164 : zeroT Try.prog 164 = some [.nilfn] := by kernel_rfl
@[go_sem] theorem lay165 : layT Try.prog 165 = some ⟨false, 1⟩ := by kernel_rfl
@[go_sem] theorem ty165 : tyT Try.prog 165 = .func := by kernel_rfl
@[go_sem] theorem zero165 : zeroT Try.prog 165 = some [.nilfn] := by kernel_rfl
@[go_sem] theorem lay166 : layT Try.prog 166 = some ⟨false, 1⟩ := by kernel_rfl
@[go_sem] theorem ty166 : tyT Try.prog 166 = .func := by kernel_rfl
@[go_sem] theorem zero166 : zeroT Try.prog 166 = some [.nilfn] := by kernel_rfl
@[go_sem] theorem lay168 : layT Try.prog 168 = some ⟨false, 1⟩ := by kernel_rfl
@[go_sem] theorem ty168 : tyT Try.prog 168 = .func := by kernel_rfl
@[go_sem] theorem zero168 : zeroT Try.prog 168 = some [.nilfn] := by kernel_rfl
@[go_sem] theorem lay169 : layT Try.prog 169 = some ⟨false, 1⟩ := by kernel_rfl
@[go_sem] theorem ty169 : tyT Try.prog 169 = .func := by kernel_rfl
@[go_sem] theorem zero169 : zeroT Try.prog 169 = some [.nilfn] := by kernel_rfl
@[go_sem] theorem lay172 : layT Try.prog 172 = some ⟨false, 1⟩ := by kernel_rfl
@[go_sem] theorem ty172 : tyT Try.prog 172 = .func := by kernel_rfl
@[go_sem] theorem zero172 : zeroT Try.prog 172 = some [.nilfn] := by kernel_rfl
@[go_sem] theorem lay173 : layT Try.prog 173 = some ⟨false, 1⟩ := by kernel_rfl
@[go_sem] theorem ty173 : tyT Try.prog 173 = .func := by kernel_rfl
@[go_sem] theorem zero173 : zeroT Try.prog 173 = some [.nilfn] := by kernel_rfl
@[go_sem] theorem lay175 : layT Try.prog 175 = some ⟨false, 1⟩ := by kernel_rfl
@[go_sem] theorem ty175 : tyT Try.prog 175 = .func := by kernel_rfl
@[go_sem] theorem zero175 : zeroT Try.prog 175 = some [.nilfn] := by kernel_rfl
@[go_sem] theorem lay176 : layT Try.prog 176 = some ⟨false, 1⟩ := by kernel_rfl
@[go_sem] theorem ty176 : tyT Try.prog 176 = .ptr := by kernel_rfl
@[go_sem] theorem zero176 : zeroT Try.prog 176 = some [.nilp] := by kernel_rfl
@[go_sem] theorem lay177 : layT Try.prog 177 = some ⟨false, 1⟩ := by kernel_rfl
@[go_sem] theorem ty177 : tyT Try.prog 177 = .func := by kernel_rfl
@[go_sem] theorem zero177 : zeroT Try.prog 177 = some [.nilfn] := by kernel_rfl
@[go_sem] theorem lay178 : layT Try.prog 178 = some ⟨true, 4⟩ := by kernel_rfl
@[go_sem] theorem ty178 : tyT Try.prog 178 = .struct [⟨0, 1, false⟩, ⟨1, 1, false⟩, ⟨2, 1, false⟩, ⟨3, 1, false⟩] := by kernel_rfl
@[go_sem] theorem zero178 : zeroT Try.prog 178 = some [.nilp, .nilp, .nilp, .str ⟨#[]⟩] := by kernel_rfl
@[go_sem] theorem lay179 : layT Try.prog 179 = some ⟨true, 4⟩ := by kernel_rfl
@[go_sem] theorem ty179 : tyT Try.prog 179 = .struct [⟨0, 1, false⟩, ⟨1, 1, false⟩, ⟨2, 1, false⟩, ⟨3, 1, false⟩] := by kernel_rfl
@[go_sem] theorem zero179 : zeroT Try.prog 179 = some [.nilp, .nilp, .nilp, .str ⟨#[]⟩] := by kernel_rfl
@[go_sem] theorem lay180 : layT Try.prog 180 = some ⟨true, 0⟩ := by kernel_rfl
@[go_sem] theorem ty180 : tyT Try.prog 180 = .arr 0 1 false := by kernel_rfl
@[go_sem] theorem zero180 : zeroT Try.prog 180 = some [] := by kernel_rfl
@[go_sem] theorem lay181 : layT Try.prog 181 = some ⟨true, 0⟩ := by kernel_rfl
@[go_sem] theorem lay182 : layT Try.prog 182 = some ⟨true, 0⟩ := by kernel_rfl
@[go_sem] theorem lay183 : layT Try.prog 183 = some ⟨false, 1⟩ := by kernel_rfl
@[go_sem] theorem ty183 : tyT Try.prog 183 = .func := by kernel_rfl
@[go_sem] theorem zero183 : zeroT Try.prog 183 = some [.nilfn] := by kernel_rfl
@[go_sem] theorem lay184 : layT Try.prog 184 = some ⟨false, 1⟩ := by kernel_rfl
@[go_sem] theorem ty184 : tyT Try.prog 184 = .int .u32 := by kernel_rfl
@[go_sem] theorem zero184 : zeroT Try.prog 184 = some [.int .u32 0] := by kernel_rfl
@[go_sem] theorem lay185 : layT Try.prog 185 = some ⟨false, 1⟩ := by kernel_rfl
@[go_sem] theorem ty185 : tyT Try.prog 185 = .int .u8 := by kernel_rfl
@[go_sem] theorem zero185 : zeroT Try.prog 185 = some [.int .u8 0] := by kernel_rfl
@[go_sem] theorem lay186 : layT Try.prog 186 = some ⟨false, 1⟩ := by kernel_rfl
@[go_sem] theorem ty186 : tyT Try.prog 186 = .int .u8 := by kernel_rfl
@[go_sem] theorem zero186 : zeroT Try.prog 186 = some [.int .u8 0] := by kernel_rfl
@[go_sem] theorem lay187 : layT Try.prog 187 = some ⟨false, 1⟩ := by kernel_rfl
@[go_sem] theorem ty187 : tyT Try.prog 187 = .func := by kernel_rfl
@[go_sem] theorem zero187 : zeroT Try.prog 187 = some [.nilfn] := by kernel_rfl
@[go_sem] theorem lay188 : layT Try.prog 188 = some ⟨false, 1⟩ := by kernel_rfl
@[go_sem] theorem ty188 : tyT Try.prog 188 = .ptr := by kernel_rfl
@[go_sem] theorem zero188 : zeroT Try.prog 188 = some [.nilp] := by kernel_rfl
@[go_sem] theorem lay189 : layT Try.prog 189 = some ⟨false, 1⟩ := by kernel_rfl
@[go_sem] theorem ty189 : tyT Try.prog 189 = .int .i32 := by kernel_rfl
@[go_sem] theorem zero189 : zeroT Try.prog 189 = some [.int .i32 0] := by kernel_rfl
@[go_sem] theorem lay190 : layT Try.prog 190 = some ⟨false, 1⟩ := by kernel_rfl
@[go_sem] theorem ty190 : tyT Try.prog 190 = .int .i32 := by kernel_rfl
@[go_sem] theorem zero190 : zeroT Try.prog 190 = some [.int .i32 0] := by kernel_rfl
@[go_sem] theorem lay191 : layT Try.prog 191 = some ⟨true, 11⟩ := by kernel_rfl
@[go_sem] theorem ty191 : tyT Try.prog 191 = .struct [⟨0, 1, false⟩, ⟨1, 1, false⟩, ⟨2, 1, false⟩, ⟨3, 1, false⟩, ⟨4, 1, false⟩, ⟨5, 1, false⟩, ⟨6, 1, false⟩, ⟨7, 1, false⟩, ⟨8, 1, false⟩, ⟨9, 1, false⟩, ⟨10, 1, false⟩] := by kernel_rfl
@[go_sem] theorem zero191 : zeroT Try.prog 191 = some [.int .u64 0, .int .u64 0, .int .u32 0, .int .u8 0, .int .u8 0, .int .u8 0, .int .u8 0, .nilfn, .nilp, .int .i32 0, .int .i32 0] := by kernel_rfl
@[go_sem] theorem lay192 : layT Try.prog 192 = some ⟨true, 11⟩ := by kernel_rfl
@[go_sem] theorem ty192 : tyT Try.prog 192 = .struct [⟨0, 1, false⟩, ⟨1, 1, false⟩, ⟨2, 1, false⟩, ⟨3, 1, false⟩, ⟨4, 1, false⟩, ⟨5, 1, false⟩, ⟨6, 1, false⟩, ⟨7, 1, false⟩, ⟨8, 1, false⟩, ⟨9, 1, false⟩, ⟨10, 1, false⟩] := by kernel_rfl
@[go_sem] theorem zero192 : zeroT Try.prog 192 = some [.int .u64 0, .int .u64 0, .int .u32 0, .int .u8 0, .int .u8 0, .int .u8 0, .int .u8 0, .nilfn, .nilp, .int .i32 0, .int .i32 0] := by kernel_rfl
@[go_sem] theorem lay193 : layT Try.prog 193 = some ⟨true, 3⟩ := by kernel_rfl
@[go_sem] theorem ty193 : tyT Try.prog 193 = .struct [⟨0, 1, false⟩, ⟨1, 1, false⟩, ⟨2, 1, false⟩] := by kernel_rfl
@[go_sem] theorem zero193 : zeroT Try.prog 193 = some [.int .i64 0, .int .i64 0, .int .i64 0] := by kernel_rfl
@[go_sem] theorem lvs193 : leavesT Try.prog 9 193 = some [.int, .int, .int] := by kernel_rfl
@[go_sem] theorem isAgg193 : isAggT Try.prog 193 = true := by kernel_rfl
@[go_sem] theorem lay194 : layT Try.prog 194 = some ⟨true, 3⟩ := by kernel_rfl
@[go_sem] theorem ty194 : tyT Try.prog 194 = .struct [⟨0, 1, false⟩, ⟨1, 1, false⟩, ⟨2, 1, false⟩] := by kernel_rfl
@[go_sem] theorem zero194 : zeroT Try.prog 194 = some [.int .i64 0, .int .i64 0, .int .i64 0] := by kernel_rfl
@[go_sem] theorem lvs194 : leavesT Try.prog 9 194 = some [.int, .int, .int] := by kernel_rfl
@[go_sem] theorem isAgg194 : isAggT Try.prog 194 = true := by kernel_rfl
@[go_sem] theorem lay195 : layT Try.prog 195 = some ⟨true, 4⟩ := by kernel_rfl
@[go_sem] theorem ty195 : tyT Try.prog 195 = .struct [⟨0, 3, true⟩, ⟨3, 1, false⟩] := by kernel_rfl
@[go_sem] theorem zero195 : zeroT Try.prog 195 = some [.int .i64 0, .int .i64 0, .int .i64 0, .int .i64 0] := by kernel_rfl
@[go_sem] theorem lvs195 : leavesT Try.prog 9 195 = some [.int, .int, .int, .int] := by kernel_rfl
@[go_sem] theorem isAgg195 : isAggT Try.prog 195 = true := by kernel_rfl
@[go_sem] theorem lay196 : layT Try.prog 196 = some ⟨true, 4⟩ := by kernel_rfl
@[go_sem] theorem ty196 : tyT Try.prog 196 = .struct [⟨0, 3, true⟩, ⟨3, 1, false⟩] := by kernel_rfl
@[go_sem] theorem zero196 : zeroT Try.prog 196 = some [.int .i64 0, .int .i64 0, .int .i64 0, .int .i64 0] := by kernel_rfl
@[go_sem] theorem lvs196 : leavesT Try.prog 9 196 = some [.int, .int, .int, .int] := by kernel_rfl
@[go_sem] theorem isAgg196 : isAggT Try.prog 196 = true := by kernel_rfl
@[go_sem] theorem lay197 : layT Try.prog 197 = some ⟨true, 5⟩ := by kernel_rfl
@[go_sem] theorem ty197 : tyT Try.prog 197 = .struct [⟨0, 2, true⟩, ⟨2, 1, false⟩, ⟨3, 1, false⟩, ⟨4, 1, false⟩] := by kernel_rfl
@[go_sem] theorem zero197 : zeroT Try.prog 197 = some [.int .i64 0, .int .i64 0, .int .i64 0, .int .i64 0, .int .i64 0] := by kernel_rfl
@[go_sem] theorem lvs197 : leavesT Try.prog 9 197 = some [.int, .int, .int, .int, .int] := by kernel_rfl
@[go_sem] theorem isAgg197 : isAggT Try.prog 197 = true := by kernel_rfl
@[go_sem] theorem lay198 : layT Try.prog 198 = some ⟨true, 5⟩ := by kernel_rfl
@[go_sem] theorem ty198 : tyT Try.prog 198 = .struct [⟨0, 2, true⟩, ⟨2, 1, false⟩, ⟨3, 1, false⟩, ⟨4, 1, false⟩] := by kernel_rfl
@[go_sem] theorem zero198 : zeroT Try.prog 198 = some [.int .i64 0, .int .i64 0, .int .i64 0, .int .i64 0, .int .i64 0] := by kernel_rfl
@[go_sem] theorem lvs198 : leavesT Try.prog 9 198 = some [.int, .int, .int, .int, .int] := by kernel_rfl
@[go_sem] theorem isAgg198 : isAggT Try.prog 198 = true := by kernel_rfl
@[go_sem] theorem lay199 : layT Try.prog 199 = some ⟨true, 5⟩ := by kernel_rfl
@[go_sem] theorem ty199 : tyT Try.prog 199 = .arr 5 1 false := by kernel_rfl
@[go_sem] theorem zero199 : zeroT Try.prog 199 = some [.int .i64 0, .int .i64 0, .int .i64 0, .int .i64 0, .int .i64 0] := by kernel_rfl
@[go_sem] theorem lvs199 : leavesT Try.prog 9 199 = some [.int, .int, .int, .int, .int] := by kernel_rfl
@[go_sem] theorem isAgg199 : isAggT Try.prog 199 = true := by kernel_rfl
@[go_sem] theorem lay200 : layT Try.prog 200 = some ⟨true, 8⟩ := by kernel_rfl
@[go_sem] theorem ty200 : tyT Try.prog 200 = .struct [⟨0, 1, false⟩, ⟨1, 1, false⟩, ⟨2, 5, true⟩, ⟨7, 1, false⟩] := by kernel_rfl
@[go_sem] theorem zero200 : zeroT Try.prog 200 = some [.int .i64 0, .int .i64 0, .int .i64 0, .int .i64 0, .int .i64 0, .int .i64 0, .int .i64 0, .int .i64 0] := by kernel_rfl
@[go_sem] theorem lvs200 : leavesT Try.prog 9 200 = some [.int, .int, .int, .int, .int, .int, .int, .int] := by kernel_rfl
@[go_sem] theorem isAgg200 : isAggT Try.prog 200 = true := by kernel_rfl
@[go_sem] theorem lay201 : layT Try.prog 201 = some ⟨true, 8⟩ := by kernel_rfl
@[go_sem] theorem ty201 : tyT Try.prog 201 = .struct [⟨0, 1, false⟩, ⟨1, 1, false⟩, ⟨2, 5, true⟩, ⟨7, 1, false⟩] := by kernel_rfl
@[go_sem] theorem zero201 : zeroT Try.prog 201 = some [.int .i64 0, .int .i64 0, .int .i64 0, .int .i64 0, .int .i64 0, .int .i64 0, .int .i64 0, .int .i64 0] := by kernel_rfl
@[go_sem] theorem lvs201 : leavesT Try.prog 9 201 = some [.int, .int, .int, .int, .int, .int, .int, .int] := by kernel_rfl
@[go_sem] theorem isAgg201 : isAggT Try.prog 201 = true := by kernel_rfl
@[go_sem] theorem lay202 : layT Try.prog 202 = some ⟨true, 1⟩ := by kernel_rfl
@[go_sem] theorem ty202 : tyT Try.prog 202 = .struct [⟨0, 1, false⟩] := by kernel_rfl
@[go_sem] theorem zero202 : zeroT Try.prog 202 = some [.str ⟨#[]⟩] := by kernel_rfl
@[go_sem] theorem lvs202 : leavesT Try.prog 9 202 = some [.str] := by kernel_rfl
@[go_sem] theorem isAgg202 : isAggT Try.prog 202 = true := by kernel_rfl
@[go_sem] theorem lay203 : layT Try.prog 203 = some ⟨true, 1⟩ := by kernel_rfl
@[go_sem] theorem ty203 : tyT Try.prog 203 = .struct [⟨0, 1, false⟩] := by kernel_rfl
@[go_sem] theorem zero203 : zeroT Try.prog 203 = some [.str ⟨#[]⟩] := by kernel_rfl
@[go_sem] theorem lvs203 : leavesT Try.prog 9 203 = some [.str] := by kernel_rfl
@[go_sem] theorem isAgg203 : isAggT Try.prog 203 = true := by kernel_rfl
end Go.Proofs.Ytbllopdcbkeadaa
