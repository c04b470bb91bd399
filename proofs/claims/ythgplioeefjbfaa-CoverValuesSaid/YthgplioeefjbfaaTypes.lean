/- What the types of this seat's translation say, a closed fact each; no theorem of a claim. -/
import Derived.Test.YthgplioeefjbfaaRows
import Derived.Test.YthgplioeefjbfaaAbcEval2
set_option linter.unusedSimpArgs false
set_option linter.unusedVariables false
namespace Go.Proofs.Ythgplioeefjbfaa
open Go.Abs
theorem mixed : Try.prog.follows .mixedOrders = true := by kernel_rfl
@[go_sem] theorem lay1 : layT Try.prog 1 = some ⟨false, 1⟩ := by kernel_rfl
@[go_sem] theorem ty1 : tyT Try.prog 1 = .func := by kernel_rfl
@[go_sem] theorem zero1 : zeroT Try.prog 1 = some [.nilfn] := by kernel_rfl
@[go_sem] theorem lay2 : layT Try.prog 2 = some ⟨false, 1⟩ := by kernel_rfl
@[go_sem] theorem ty2 : tyT Try.prog 2 = .int .i64 := by kernel_rfl
@[go_sem] theorem zero2 : zeroT Try.prog 2 = some [.int .i64 0] := by kernel_rfl
@[go_sem] theorem lay3 : layT Try.prog 3 = some ⟨false, 1⟩ := by kernel_rfl
@[go_sem] theorem ty3 : tyT Try.prog 3 = .int .i64 := by kernel_rfl
@[go_sem] theorem zero3 : zeroT Try.prog 3 = some [.int .i64 0] := by kernel_rfl
@[go_sem] theorem lay4 : layT Try.prog 4 = some ⟨false, 1⟩ := by kernel_rfl
@[go_sem] theorem ty4 : tyT Try.prog 4 = .bool := by kernel_rfl
@[go_sem] theorem zero4 : zeroT Try.prog 4 = some [.bool false] := by kernel_rfl
@[go_sem] theorem lay5 : layT Try.prog 5 = some ⟨false, 1⟩ := by kernel_rfl
@[go_sem] theorem ty5 : tyT Try.prog 5 = .int .u8 := by kernel_rfl
@[go_sem] theorem zero5 : zeroT Try.prog 5 = some [.int .u8 0] := by kernel_rfl
@[go_sem] theorem lay6 : layT Try.prog 6 = some ⟨false, 1⟩ := by kernel_rfl
@[go_sem] theorem ty6 : tyT Try.prog 6 = .int .u8 := by kernel_rfl
@[go_sem] theorem zero6 : zeroT Try.prog 6 = some [.int .u8 0] := by kernel_rfl
@[go_sem] theorem lay7 : layT Try.prog 7 = some ⟨true, 4⟩ := by kernel_rfl
@[go_sem] theorem ty7 : tyT Try.prog 7 = .struct [⟨0, 1, false⟩, ⟨1, 1, false⟩, ⟨2, 1, false⟩, ⟨3, 1, false⟩] := by kernel_rfl
@[go_sem] theorem zero7 : zeroT Try.prog 7 = some [.int .i64 0, .int .i64 0, .bool false, .int .u8 0] := by kernel_rfl
@[go_sem] theorem lay8 : layT Try.prog 8 = some ⟨true, 4⟩ := by kernel_rfl
@[go_sem] theorem ty8 : tyT Try.prog 8 = .struct [⟨0, 1, false⟩, ⟨1, 1, false⟩, ⟨2, 1, false⟩, ⟨3, 1, false⟩] := by kernel_rfl
@[go_sem] theorem zero8 : zeroT Try.prog 8 = some [.int .i64 0, .int .i64 0, .bool false, .int .u8 0] := by kernel_rfl
@[go_sem] theorem lay9 : layT Try.prog 9 = some ⟨false, 1⟩ := by kernel_rfl
@[go_sem] theorem ty9 : tyT Try.prog 9 = .str := by kernel_rfl
@[go_sem] theorem zero9 : zeroT Try.prog 9 = some [.str ⟨#[]⟩] := by kernel_rfl
@[go_sem] theorem lay10 : layT Try.prog 10 = some ⟨false, 1⟩ := by kernel_rfl
@[go_sem] theorem ty10 : tyT Try.prog 10 = .str := by kernel_rfl
@[go_sem] theorem zero10 : zeroT Try.prog 10 = some [.str ⟨#[]⟩] := by kernel_rfl
@[go_sem] theorem lay11 : layT Try.prog 11 = some ⟨false, 1⟩ := by kernel_rfl
@[go_sem] theorem ty11 : tyT Try.prog 11 = .str := by kernel_rfl
@[go_sem] theorem zero11 : zeroT Try.prog 11 = some [.str ⟨#[]⟩] := by kernel_rfl
@[go_sem] theorem lay12 : layT Try.prog 12 = some ⟨false, 1⟩ := by kernel_rfl
@[go_sem] theorem ty12 : tyT Try.prog 12 = .int .u64 := by kernel_rfl
@[go_sem] theorem zero12 : zeroT Try.prog 12 = some [.int .u64 0] := by kernel_rfl
@[go_sem] theorem lay13 : layT Try.prog 13 = some ⟨true, 2⟩ := by kernel_rfl
@[go_sem] theorem ty13 : tyT Try.prog 13 = .struct [⟨0, 1, false⟩, ⟨1, 1, false⟩] := by kernel_rfl
@[go_sem] theorem zero13 : zeroT Try.prog 13 = some [.str ⟨#[]⟩, .int .u64 0] := by kernel_rfl
@[go_sem] theorem lay14 : layT Try.prog 14 = some ⟨true, 2⟩ := by kernel_rfl
@[go_sem] theorem ty14 : tyT Try.prog 14 = .struct [⟨0, 1, false⟩, ⟨1, 1, false⟩] := by kernel_rfl
@[go_sem] theorem zero14 : zeroT Try.prog 14 = some [.str ⟨#[]⟩, .int .u64 0] := by kernel_rfl
@[go_sem] theorem lay15 : layT Try.prog 15 = some ⟨false, 1⟩ := by kernel_rfl
@[go_sem] theorem ty15 : tyT Try.prog 15 = .ptr := by kernel_rfl
@[go_sem] theorem zero15 : zeroT Try.prog 15 = some [.nilp] := by kernel_rfl
@[go_sem] theorem lay16 : layT Try.prog 16 = some ⟨false, 1⟩ := by kernel_rfl
@[go_sem] theorem ty16 : tyT Try.prog 16 = .ptr := by kernel_rfl
@[go_sem] theorem zero16 : zeroT Try.prog 16 = some [.nilp] := by kernel_rfl
@[go_sem] theorem lay17 : layT Try.prog 17 = some ⟨false, 1⟩ := by kernel_rfl
@[go_sem] theorem ty17 : tyT Try.prog 17 = .ptr := by kernel_rfl
@[go_sem] theorem zero17 : zeroT Try.prog 17 = some [.nilp] := by kernel_rfl
@[go_sem] theorem lay18 : layT Try.prog 18 = some ⟨true, 1⟩ := by kernel_rfl
@[go_sem] theorem ty18 : tyT Try.prog 18 = .struct [⟨0, 1, false⟩] := by kernel_rfl
@[go_sem] theorem zero18 : zeroT Try.prog 18 = some [.nilp] := by kernel_rfl
@[go_sem] theorem lay19 : layT Try.prog 19 = some ⟨true, 1⟩ := by kernel_rfl
@[go_sem] theorem ty19 : tyT Try.prog 19 = .struct [⟨0, 1, false⟩] := by kernel_rfl
@[go_sem] theorem zero19 : zeroT Try.prog 19 = some [.nilp] := by kernel_rfl
@[go_sem] theorem lay21 : layT Try.prog 21 = some ⟨false, 1⟩ := by kernel_rfl
@[go_sem] theorem ty21 : tyT Try.prog 21 = .int .i32 := by kernel_rfl
@[go_sem] theorem zero21 : zeroT Try.prog 21 = some [.int .i32 0] := by kernel_rfl
@[go_sem] theorem lay22 : layT Try.prog 22 = some ⟨true, 4⟩ := by kernel_rfl
@[go_sem] theorem ty22 : tyT Try.prog 22 = .struct [⟨0, 1, false⟩, ⟨1, 1, false⟩, ⟨2, 1, false⟩, ⟨3, 1, false⟩] := by kernel_rfl
@[go_sem] theorem zero22 : zeroT Try.prog 22 = some [.int .i64 0, .int .i64 0, .int .i64 0, .int .i64 0] := by kernel_rfl
@[go_sem] theorem lvs22 : leavesT Try.prog 9 22 = some [.int, .int, .int, .int] := by kernel_rfl
@[go_sem] theorem isAgg22 : isAggT Try.prog 22 = true := by kernel_rfl
@[go_sem] theorem lay23 : layT Try.prog 23 = some ⟨true, 4⟩ := by kernel_rfl
@[go_sem] theorem ty23 : tyT Try.prog 23 = .struct [⟨0, 1, false⟩, ⟨1, 1, false⟩, ⟨2, 1, false⟩, ⟨3, 1, false⟩] := by kernel_rfl
@[go_sem] theorem zero23 : zeroT Try.prog 23 = some [.int .i64 0, .int .i64 0, .int .i64 0, .int .i64 0] := by kernel_rfl
@[go_sem] theorem lvs23 : leavesT Try.prog 9 23 = some [.int, .int, .int, .int] := by kernel_rfl
@[go_sem] theorem isAgg23 : isAggT Try.prog 23 = true := by kernel_rfl
@[go_sem] theorem lay24 : layT Try.prog 24 = some ⟨false, 1⟩ := by kernel_rfl
@[go_sem] theorem ty24 : tyT Try.prog 24 = .int .i64 := by kernel_rfl
@[go_sem] theorem zero24 : zeroT Try.prog 24 = some [.int .i64 0] := by kernel_rfl
@[go_sem] theorem lay26 : layT Try.prog 26 = some ⟨false, 1⟩ := by kernel_rfl
@[go_sem] theorem ty26 : tyT Try.prog 26 = .func := by kernel_rfl
@[go_sem] theorem zero26 : zeroT Try.prog 26 = some [.nilfn] := by kernel_rfl
@[go_sem] theorem lay27 : layT Try.prog 27 = some ⟨false, 1⟩ := by kernel_rfl
@[go_sem] theorem ty27 : tyT Try.prog 27 = .func := by kernel_rfl
@[go_sem] theorem zero27 : zeroT Try.prog 27 = some [.nilfn] := by kernel_rfl
@[go_sem] theorem lay28 : layT Try.prog 28 = some ⟨false, 1⟩ := by kernel_rfl
@[go_sem] theorem ty28 : tyT Try.prog 28 = .func := by kernel_rfl
@[go_sem] theorem zero28 : zeroT Try.prog 28 = some [.nilfn] := by kernel_rfl
@[go_sem] theorem lay29 : layT Try.prog 29 = some ⟨false, 1⟩ := by kernel_rfl
@[go_sem] theorem ty29 : tyT Try.prog 29 = .func := by kernel_rfl
@[go_sem] theorem zero29 : zeroT Try.prog 29 = some [.nilfn] := by kernel_rfl
@[go_sem] theorem lay30 : layT Try.prog 30 = some ⟨false, 1⟩ := by kernel_rfl
@[go_sem] theorem ty30 : tyT Try.prog 30 = .slice 4 32 true := by kernel_rfl
@[go_sem] theorem zero30 : zeroT Try.prog 30 = some [.nil] := by kernel_rfl
@[go_sem] theorem zel30 : zeroElemT Try.prog 30 = some [.int .i64 0, .int .i64 0, .int .i64 0, .int .i64 0] := by kernel_rfl
@[go_sem] theorem lay31 : layT Try.prog 31 = some ⟨false, 1⟩ := by kernel_rfl
@[go_sem] theorem ty31 : tyT Try.prog 31 = .slice 3 24 true := by kernel_rfl
@[go_sem] theorem zero31 : zeroT Try.prog 31 = some [.nil] := by kernel_rfl
@[go_sem] theorem zel31 : zeroElemT Try.prog 31 = some [.int .i64 0, .int .i64 0, .int .i64 0] := by kernel_rfl
@[go_sem] theorem lay32 : layT Try.prog 32 = some ⟨false, 1⟩ := by kernel_rfl
@[go_sem] theorem ty32 : tyT Try.prog 32 = .slice 12 96 true := by kernel_rfl
@[go_sem] theorem zero32 : zeroT Try.prog 32 = some [.nil] := by kernel_rfl
@[go_sem] theorem zel32 : zeroElemT Try.prog 32 = some [.int .i64 0, .int .i64 0, .int .i64 0, .int .i64 0, .int .i64 0, .int .i64 0, .int .i64 0, .int .i64 0, .int .i64 0, .int .i64 0, .int .i64 0, .int .i64 0] := by kernel_rfl
@[go_sem] theorem lay33 : layT Try.prog 33 = some ⟨true, 3⟩ := by kernel_rfl
@[go_sem] theorem ty33 : tyT Try.prog 33 = .struct [⟨0, 1, false⟩, ⟨1, 1, false⟩, ⟨2, 1, false⟩] := by kernel_rfl
@[go_sem] theorem zero33 : zeroT Try.prog 33 = some [.nil, .nil, .nil] := by kernel_rfl
@[go_sem] theorem lay34 : layT Try.prog 34 = some ⟨true, 3⟩ := by kernel_rfl
@[go_sem] theorem ty34 : tyT Try.prog 34 = .struct [⟨0, 1, false⟩, ⟨1, 1, false⟩, ⟨2, 1, false⟩] := by kernel_rfl
@[go_sem] theorem zero34 : zeroT Try.prog 34 = some [.nil, .nil, .nil] := by kernel_rfl
@[go_sem] theorem lay35 : layT Try.prog 35 = some ⟨false, 1⟩ := by kernel_rfl
@[go_sem] theorem ty35 : tyT Try.prog 35 = .func := by kernel_rfl
@[go_sem] theorem zero35 : zeroT Try.prog 35 = some [.nilfn] := by kernel_rfl
@[go_sem] theorem lay36 : layT Try.prog 36 = some ⟨false, 1⟩ := by kernel_rfl
@[go_sem] theorem ty36 : tyT Try.prog 36 = .func := by kernel_rfl
@[go_sem] theorem zero36 : zeroT Try.prog 36 = some [.nilfn] := by kernel_rfl
@[go_sem] theorem lay37 : layT Try.prog 37 = some ⟨true, 3⟩ := by kernel_rfl
@[go_sem] theorem ty37 : tyT Try.prog 37 = .struct [⟨0, 1, false⟩, ⟨1, 1, false⟩, ⟨2, 1, false⟩] := by kernel_rfl
@[go_sem] theorem zero37 : zeroT Try.prog 37 = some [.int .i64 0, .int .i64 0, .int .i64 0] := by kernel_rfl
@[go_sem] theorem lvs37 : leavesT Try.prog 9 37 = some [.int, .int, .int] := by kernel_rfl
@[go_sem] theorem isAgg37 : isAggT Try.prog 37 = true := by kernel_rfl
@[go_sem] theorem lay38 : layT Try.prog 38 = some ⟨true, 3⟩ := by kernel_rfl
@[go_sem] theorem ty38 : tyT Try.prog 38 = .struct [⟨0, 1, false⟩, ⟨1, 1, false⟩, ⟨2, 1, false⟩] := by kernel_rfl
@[go_sem] theorem zero38 : zeroT Try.prog 38 = some [.int .i64 0, .int .i64 0, .int .i64 0] := by kernel_rfl
@[go_sem] theorem lvs38 : leavesT Try.prog 9 38 = some [.int, .int, .int] := by kernel_rfl
@[go_sem] theorem isAgg38 : isAggT Try.prog 38 = true := by kernel_rfl
@[go_sem] theorem lay39 : layT Try.prog 39 = some ⟨false, 1⟩ := by kernel_rfl
@[go_sem] theorem ty39 : tyT Try.prog 39 = .func := by kernel_rfl
@[go_sem] theorem zero39 : zeroT Try.prog 39 = some [.nilfn] := by kernel_rfl
@[go_sem] theorem lay40 : layT Try.prog 40 = some ⟨false, 1⟩ := by kernel_rfl
@[go_sem] theorem ty40 : tyT Try.prog 40 = .func := by kernel_rfl
@[go_sem] theorem zero40 : zeroT Try.prog 40 = some [.nilfn] := by kernel_rfl
@[go_sem] theorem lay41 : layT Try.prog 41 = some ⟨false, 1⟩ := by kernel_rfl
@[go_sem] theorem ty41 : tyT Try.prog 41 = .func := by kernel_rfl
@[go_sem] theorem zero41 : zeroT Try.prog 41 = some [.nilfn] := by kernel_rfl
@[go_sem] theorem lay42 : layT Try.prog 42 = some ⟨true, 6⟩ := by kernel_rfl
@[go_sem] theorem ty42 : tyT Try.prog 42 = .arr 6 1 false := by kernel_rfl
@[go_sem] theorem zero42 : zeroT Try.prog 42 = some [.int .i64 0, .int .i64 0, .int .i64 0, .int .i64 0, .int .i64 0, .int .i64 0] := by kernel_rfl
@[go_sem] theorem lvs42 : leavesT Try.prog 9 42 = some [.int, .int, .int, .int, .int, .int] := by kernel_rfl
@[go_sem] theorem isAgg42 : isAggT Try.prog 42 = true := by kernel_rfl
@[go_sem] theorem lay43 : layT Try.prog 43 = some ⟨true, 12⟩ := by kernel_rfl
@[go_sem] theorem ty43 : tyT Try.prog 43 = .struct [⟨0, 1, false⟩, ⟨1, 1, false⟩, ⟨2, 1, false⟩, ⟨3, 1, false⟩, ⟨4, 1, false⟩, ⟨5, 1, false⟩, ⟨6, 6, true⟩] := by kernel_rfl
@[go_sem] theorem zero43 : zeroT Try.prog 43 = some [.int .i64 0, .int .i64 0, .int .i64 0, .int .i64 0, .int .i64 0, .int .i64 0, .int .i64 0, .int .i64 0, .int .i64 0, .int .i64 0, .int .i64 0, .int .i64 0] := by kernel_rfl
@[go_sem] theorem lvs43 : leavesT Try.prog 9 43 = some [.int, .int, .int, .int, .int, .int, .int, .int, .int, .int, .int, .int] := by kernel_rfl
@[go_sem] theorem isAgg43 : isAggT Try.prog 43 = true := by kernel_rfl
@[go_sem] theorem lay44 : layT Try.prog 44 = some ⟨true, 12⟩ := by kernel_rfl
@[go_sem] theorem ty44 : tyT Try.prog 44 = .struct [⟨0, 1, false⟩, ⟨1, 1, false⟩, ⟨2, 1, false⟩, ⟨3, 1, false⟩, ⟨4, 1, false⟩, ⟨5, 1, false⟩, ⟨6, 6, true⟩] := by kernel_rfl
@[go_sem] theorem zero44 : zeroT Try.prog 44 = some [.int .i64 0, .int .i64 0, .int .i64 0, .int .i64 0, .int .i64 0, .int .i64 0, .int .i64 0, .int .i64 0, .int .i64 0, .int .i64 0, .int .i64 0, .int .i64 0] := by kernel_rfl
@[go_sem] theorem lvs44 : leavesT Try.prog 9 44 = some [.int, .int, .int, .int, .int, .int, .int, .int, .int, .int, .int, .int] := by kernel_rfl
@[go_sem] theorem isAgg44 : isAggT Try.prog 44 = true := by kernel_rfl
@[go_sem] theorem lay45 : layT Try.prog 45 = some ⟨false, 1⟩ := by kernel_rfl
@[go_sem] theorem ty45 : tyT Try.prog 45 = .func := by kernel_rfl
@[go_sem] theorem zero45 : zeroT Try.prog 45 = some [.nilfn] := by kernel_rfl
@[go_sem] theorem lay46 : layT Try.prog 46 = some ⟨false, 1⟩ := by kernel_rfl
@[go_sem] theorem ty46 : tyT Try.prog 46 = .func := by kernel_rfl
@[go_sem] theorem zero46 : zeroT Try.prog 46 = some [.nilfn] := by kernel_rfl
@[go_sem] theorem lay47 : layT Try.prog 47 = some ⟨false, 1⟩ := by kernel_rfl
@[go_sem] theorem ty47 : tyT Try.prog 47 = .func := by kernel_rfl
@[go_sem] theorem zero47 : zeroT Try.prog 47 = some [.nilfn] := by kernel_rfl
@[go_sem] theorem lay48 : layT Try.prog 48 = some ⟨false, 1⟩ := by kernel_rfl
@[go_sem] theorem ty48 : tyT Try.prog 48 = .func := by kernel_rfl
@[go_sem] theorem zero48 : zeroT Try.prog 48 = some [.nilfn] := by kernel_rfl
@[go_sem] theorem lay49 : layT Try.prog 49 = some ⟨false, 1⟩ := by kernel_rfl
@[go_sem] theorem ty49 : tyT Try.prog 49 = .func := by kernel_rfl
@[go_sem] theorem zero49 : zeroT Try.prog 49 = some [.nilfn] := by kernel_rfl
@[go_sem] theorem lay51 : layT Try.prog 51 = some ⟨false, 1⟩ := by kernel_rfl
@[go_sem] theorem ty51 : tyT Try.prog 51 = .func := by kernel_rfl
@[go_sem] theorem zero51 : zeroT Try.prog 51 = some [.nilfn] := by kernel_rfl
@[go_sem] theorem lay52 : layT Try.prog 52 = some ⟨false, 1⟩ := by kernel_rfl
@[go_sem] theorem ty52 : tyT Try.prog 52 = .int .u64 := by kernel_rfl
@[go_sem] theorem zero52 : zeroT Try.prog 52 = some [.int .u64 0] := by kernel_rfl
@[go_sem] theorem lay53 : layT Try.prog 53 = some ⟨true, 2⟩ := by kernel_rfl
@[go_sem] theorem ty53 : tyT Try.prog 53 = .struct [⟨0, 1, false⟩, ⟨1, 1, false⟩] := by kernel_rfl
@[go_sem] theorem zero53 : zeroT Try.prog 53 = some [.int .i64 0, .int .u64 0] := by kernel_rfl
@[go_sem] theorem lvs53 : leavesT Try.prog 9 53 = some [.int, .int] := by kernel_rfl
@[go_sem] theorem isAgg53 : isAggT Try.prog 53 = true := by kernel_rfl
@[go_sem] theorem lay54 : layT Try.prog 54 = some ⟨true, 2⟩ := by kernel_rfl
@[go_sem] theorem ty54 : tyT Try.prog 54 = .struct [⟨0, 1, false⟩, ⟨1, 1, false⟩] := by kernel_rfl
@[go_sem] theorem zero54 : zeroT Try.prog 54 = some [.int .i64 0, .int .u64 0] := by kernel_rfl
@[go_sem] theorem lvs54 : leavesT Try.prog 9 54 = some [.int, .int] := by kernel_rfl
@[go_sem] theorem isAgg54 : isAggT Try.prog 54 = true := by kernel_rfl
@[go_sem] theorem lay55 : layT Try.prog 55 = some ⟨false, 1⟩ := by kernel_rfl
@[go_sem] theorem ty55 : tyT Try.prog 55 = .func := by kernel_rfl
@[go_sem] theorem zero55 : zeroT Try.prog 55 = some [.nilfn] := by kernel_rfl
@[go_sem] theorem lay56 : layT Try.prog 56 = some ⟨false, 1⟩ := by kernel_rfl
@[go_sem] theorem ty56 : tyT Try.prog 56 = .func := by kernel_rfl
@[go_sem] theorem zero56 : zeroT Try.prog 56 = some [.nilfn] := by kernel_rfl
@[go_sem] theorem lay57 : layT Try.prog 57 = some ⟨false, 1⟩ := by kernel_rfl
@[go_sem] theorem ty57 : tyT Try.prog 57 = .func := by kernel_rfl
@[go_sem] theorem zero57 : zeroT Try.prog 57 = some [.nilfn] := by kernel_rfl
@[go_sem] theorem lay59 : layT Try.prog 59 = some ⟨false, 1⟩ := by kernel_rfl
@[go_sem] theorem ty59 : tyT Try.prog 59 = .func := by kernel_rfl
@[go_sem] theorem zero59 : zeroT Try.prog 59 = some [.nilfn] := by kernel_rfl
@[go_sem] theorem lay60 : layT Try.prog 60 = some ⟨false, 1⟩ := by kernel_rfl
@[go_sem] theorem ty60 : tyT Try.prog 60 = .func := by kernel_rfl
@[go_sem] theorem zero60 : zeroT Try.prog 60 = some [.nilfn] := by kernel_rfl
@[go_sem] theorem lay61 : layT Try.prog 61 = some ⟨false, 1⟩ := by kernel_rfl
@[go_sem] theorem ty61 : tyT Try.prog 61 = .slice 1 8 false := by kernel_rfl
@[go_sem] theorem zero61 : zeroT Try.prog 61 = some [.nil] := by kernel_rfl
@[go_sem] theorem zel61 : zeroElemT Try.prog 61 = some [.int .i64 0] := by kernel_rfl
@[go_sem] theorem lay64 : layT Try.prog 64 = some ⟨false, 1⟩ := by kernel_rfl
@[go_sem] theorem ty64 : tyT Try.prog 64 = .int .u64 := by kernel_rfl
@[go_sem] theorem zero64 : zeroT Try.prog 64 = some [.int .u64 0] := by kernel_rfl
@[go_sem] theorem lay65 : layT Try.prog 65 = some ⟨false, 1⟩ := by kernel_rfl
@[go_sem] theorem ty65 : tyT Try.prog 65 = .func := by kernel_rfl
@[go_sem] theorem zero65 : zeroT Try.prog 65 = some [.nilfn] := by kernel_rfl
@[go_sem] theorem lay66 : layT Try.prog 66 = some ⟨false, 1⟩ := by kernel_rfl
@[go_sem] theorem ty66 : tyT Try.prog 66 = .ptr := by kernel_rfl
@[go_sem] theorem zero66 : zeroT Try.prog 66 = some [.nilp] := by kernel_rfl
@[go_sem] theorem lay67 : layT Try.prog 67 = some ⟨false, 1⟩ := by kernel_rfl
@[go_sem] theorem ty67 : tyT Try.prog 67 = .func := by kernel_rfl
@[go_sem] theorem zero67 : zeroT Try.prog 67 = some [.nilfn] := by kernel_rfl
@[go_sem] theorem lay68 : layT Try.prog 68 = some ⟨true, 4⟩ := by kernel_rfl
@[go_sem] theorem ty68 : tyT Try.prog 68 = .struct [⟨0, 1, false⟩, ⟨1, 1, false⟩, ⟨2, 1, false⟩, ⟨3, 1, false⟩] := by kernel_rfl
@[go_sem] theorem zero68 : zeroT Try.prog 68 = some [.nilp, .nilp, .nilp, .str ⟨#[]⟩] := by kernel_rfl
@[go_sem] theorem lay69 : layT Try.prog 69 = some ⟨true, 4⟩ := by kernel_rfl
@[go_sem] theorem ty69 : tyT Try.prog 69 = .struct [⟨0, 1, false⟩, ⟨1, 1, false⟩, ⟨2, 1, false⟩, ⟨3, 1, false⟩] := by kernel_rfl
@[go_sem] theorem zero69 : zeroT Try.prog 69 = some [.nilp, .nilp, .nilp, .str ⟨#[]⟩] := by kernel_rfl
@[go_sem] theorem lay70 : layT Try.prog 70 = some ⟨true, 0⟩ := by kernel_rfl
@[go_sem] theorem ty70 : tyT Try.prog 70 = .arr 0 1 false := by kernel_rfl
@[go_sem] theorem zero70 : zeroT Try.prog 70 = some [] := by kernel_rfl
@[go_sem] theorem lay71 : layT Try.prog 71 = some ⟨true, 0⟩ := by kernel_rfl
@[go_sem] theorem lay72 : layT Try.prog 72 = some ⟨true, 0⟩ := by kernel_rfl
@[go_sem] theorem lay73 : layT Try.prog 73 = some ⟨false, 1⟩ := by kernel_rfl
@[go_sem] theorem ty73 : tyT Try.prog 73 = .func := by kernel_rfl
@[go_sem] theorem zero73 : zeroT Try.prog 73 = some [.nilfn] := by kernel_rfl
@[go_sem] theorem lay74 : layT Try.prog 74 = some ⟨false, 1⟩ := by kernel_rfl
@[go_sem] theorem ty74 : tyT Try.prog 74 = .int .u32 := by kernel_rfl
@[go_sem] theorem zero74 : zeroT Try.prog 74 = some [.int .u32 0] := by kernel_rfl
@[go_sem] theorem lay75 : layT Try.prog 75 = some ⟨false, 1⟩ := by kernel_rfl
@[go_sem] theorem ty75 : tyT Try.prog 75 = .int .u8 := by kernel_rfl
@[go_sem] theorem zero75 : zeroT Try.prog 75 = some [.int .u8 0] := by kernel_rfl
@[go_sem] theorem lay76 : layT Try.prog 76 = some ⟨false, 1⟩ := by kernel_rfl
@[go_sem] theorem ty76 : tyT Try.prog 76 = .int .u8 := by kernel_rfl
@[go_sem] theorem zero76 : zeroT Try.prog 76 = some [.int .u8 0] := by kernel_rfl
@[go_sem] theorem lay77 : layT Try.prog 77 = some ⟨false, 1⟩ := by kernel_rfl
@[go_sem] theorem ty77 : tyT Try.prog 77 = .func := by kernel_rfl
@[go_sem] theorem zero77 : zeroT Try.prog 77 = some [.nilfn] := by kernel_rfl
@[go_sem] theorem lay78 : layT Try.prog 78 = some ⟨false, 1⟩ := by kernel_rfl
@[go_sem] theorem ty78 : tyT Try.prog 78 = .ptr := by kernel_rfl
@[go_sem] theorem zero78 : zeroT Try.prog 78 = some [.nilp] := by kernel_rfl
@[go_sem] theorem lay79 : layT Try.prog 79 = some ⟨false, 1⟩ := by kernel_rfl
@[go_sem] theorem ty79 : tyT Try.prog 79 = .int .i32 := by kernel_rfl
@[go_sem] theorem zero79 : zeroT Try.prog 79 = some [.int .i32 0] := by kernel_rfl
@[go_sem] theorem lay80 : layT Try.prog 80 = some ⟨false, 1⟩ := by kernel_rfl
@[go_sem] theorem ty80 : tyT Try.prog 80 = .int .i32 := by kernel_rfl
@[go_sem] theorem zero80 : zeroT Try.prog 80 = some [.int .i32 0] := by kernel_rfl
@[go_sem] theorem lay81 : layT Try.prog 81 = some ⟨true, 11⟩ := by kernel_rfl
@[go_sem] theorem ty81 : tyT Try.prog 81 = .struct [⟨0, 1, false⟩, ⟨1, 1, false⟩, ⟨2, 1, false⟩, ⟨3, 1, false⟩, ⟨4, 1, false⟩, ⟨5, 1, false⟩, ⟨6, 1, false⟩, ⟨7, 1, false⟩, ⟨8, 1, false⟩, ⟨9, 1, false⟩, ⟨10, 1, false⟩] := by kernel_rfl
@[go_sem] theorem zero81 : zeroT Try.prog 81 = some [.int .u64 0, .int .u64 0, .int .u32 0, .int .u8 0, .int .u8 0, .int .u8 0, .int .u8 0, .nilfn, .nilp, .int .i32 0, .int .i32 0] := by kernel_rfl
@[go_sem] theorem lay82 : layT Try.prog 82 = some ⟨true, 11⟩ := by kernel_rfl
@[go_sem] theorem ty82 : tyT Try.prog 82 = .struct [⟨0, 1, false⟩, ⟨1, 1, false⟩, ⟨2, 1, false⟩, ⟨3, 1, false⟩, ⟨4, 1, false⟩, ⟨5, 1, false⟩, ⟨6, 1, false⟩, ⟨7, 1, false⟩, ⟨8, 1, false⟩, ⟨9, 1, false⟩, ⟨10, 1, false⟩] := by kernel_rfl
@[go_sem] theorem zero82 : zeroT Try.prog 82 = some [.int .u64 0, .int .u64 0, .int .u32 0, .int .u8 0, .int .u8 0, .int .u8 0, .int .u8 0, .nilfn, .nilp, .int .i32 0, .int .i32 0] := by kernel_rfl
@[go_sem] theorem lay83 : layT Try.prog 83 = some ⟨true, 1⟩ := by kernel_rfl
@[go_sem] theorem ty83 : tyT Try.prog 83 = .struct [⟨0, 1, false⟩] := by kernel_rfl
@[go_sem] theorem zero83 : zeroT Try.prog 83 = some [.str ⟨#[]⟩] := by kernel_rfl
@[go_sem] theorem lvs83 : leavesT Try.prog 9 83 = some [.str] := by kernel_rfl
@[go_sem] theorem isAgg83 : isAggT Try.prog 83 = true := by kernel_rfl
@[go_sem] theorem lay84 : layT Try.prog 84 = some ⟨true, 1⟩ := by kernel_rfl
@[go_sem] theorem ty84 : tyT Try.prog 84 = .struct [⟨0, 1, false⟩] := by kernel_rfl
@[go_sem] theorem zero84 : zeroT Try.prog 84 = some [.str ⟨#[]⟩] := by kernel_rfl
@[go_sem] theorem lvs84 : leavesT Try.prog 9 84 = some [.str] := by kernel_rfl
@[go_sem] theorem isAgg84 : isAggT Try.prog 84 = true := by kernel_rfl
end Go.Proofs.Ythgplioeefjbfaa
