/- What the types of this seat's translation say, a closed fact each; no theorem of a claim. -/
import Derived.Test.YthgplioeefjbfaaDoorRows
import Derived.Test.YthgplioeefjbfaaDoorAbcEval2
set_option linter.unusedSimpArgs false
set_option linter.unusedVariables false
namespace Go.Proofs.YthgplioeefjbfaaDoor
open Go.Abs
theorem mixed : Tryd.prog.follows .mixedOrders = true := by kernel_rfl
@[go_sem] theorem lay1 : layT Tryd.prog 1 = some ⟨false, 1⟩ := by kernel_rfl
@[go_sem] theorem ty1 : tyT Tryd.prog 1 = .func := by kernel_rfl
@[go_sem] theorem zero1 : zeroT Tryd.prog 1 = some [.nilfn] := by kernel_rfl
@[go_sem] theorem lay2 : layT Tryd.prog 2 = some ⟨false, 1⟩ := by kernel_rfl
@[go_sem] theorem ty2 : tyT Tryd.prog 2 = .int .i64 := by kernel_rfl
@[go_sem] theorem zero2 : zeroT Tryd.prog 2 = some [.int .i64 0] := by kernel_rfl
@[go_sem] theorem lay3 : layT Tryd.prog 3 = some ⟨false, 1⟩ := by kernel_rfl
@[go_sem] theorem ty3 : tyT Tryd.prog 3 = .int .i64 := by kernel_rfl
@[go_sem] theorem zero3 : zeroT Tryd.prog 3 = some [.int .i64 0] := by kernel_rfl
@[go_sem] theorem lay4 : layT Tryd.prog 4 = some ⟨false, 1⟩ := by kernel_rfl
@[go_sem] theorem ty4 : tyT Tryd.prog 4 = .bool := by kernel_rfl
@[go_sem] theorem zero4 : zeroT Tryd.prog 4 = some [.bool false] := by kernel_rfl
@[go_sem] theorem lay5 : layT Tryd.prog 5 = some ⟨false, 1⟩ := by kernel_rfl
@[go_sem] theorem ty5 : tyT Tryd.prog 5 = .int .u8 := by kernel_rfl
@[go_sem] theorem zero5 : zeroT Tryd.prog 5 = some [.int .u8 0] := by kernel_rfl
@[go_sem] theorem lay6 : layT Tryd.prog 6 = some ⟨false, 1⟩ := by kernel_rfl
@[go_sem] theorem ty6 : tyT Tryd.prog 6 = .int .u8 := by kernel_rfl
@[go_sem] theorem zero6 : zeroT Tryd.prog 6 = some [.int .u8 0] := by kernel_rfl
@[go_sem] theorem lay7 : layT Tryd.prog 7 = some ⟨true, 4⟩ := by kernel_rfl
@[go_sem] theorem ty7 : tyT Tryd.prog 7 = .struct [⟨0, 1, false⟩, ⟨1, 1, false⟩, ⟨2, 1, false⟩, ⟨3, 1, false⟩] := by kernel_rfl
@[go_sem] theorem zero7 : zeroT Tryd.prog 7 = some [.int .i64 0, .int .i64 0, .bool false, .int .u8 0] := by kernel_rfl
@[go_sem] theorem lay8 : layT Tryd.prog 8 = some ⟨true, 4⟩ := by kernel_rfl
@[go_sem] theorem ty8 : tyT Tryd.prog 8 = .struct [⟨0, 1, false⟩, ⟨1, 1, false⟩, ⟨2, 1, false⟩, ⟨3, 1, false⟩] := by kernel_rfl
@[go_sem] theorem zero8 : zeroT Tryd.prog 8 = some [.int .i64 0, .int .i64 0, .bool false, .int .u8 0] := by kernel_rfl
@[go_sem] theorem lay9 : layT Tryd.prog 9 = some ⟨false, 1⟩ := by kernel_rfl
@[go_sem] theorem ty9 : tyT Tryd.prog 9 = .str := by kernel_rfl
@[go_sem] theorem zero9 : zeroT Tryd.prog 9 = some [.str ⟨#[]⟩] := by kernel_rfl
@[go_sem] theorem lay10 : layT Tryd.prog 10 = some ⟨false, 1⟩ := by kernel_rfl
@[go_sem] theorem ty10 : tyT Tryd.prog 10 = .str := by kernel_rfl
@[go_sem] theorem zero10 : zeroT Tryd.prog 10 = some [.str ⟨#[]⟩] := by kernel_rfl
@[go_sem] theorem lay11 : layT Tryd.prog 11 = some ⟨false, 1⟩ := by kernel_rfl
@[go_sem] theorem ty11 : tyT Tryd.prog 11 = .str := by kernel_rfl
@[go_sem] theorem zero11 : zeroT Tryd.prog 11 = some [.str ⟨#[]⟩] := by kernel_rfl
@[go_sem] theorem lay12 : layT Tryd.prog 12 = some ⟨false, 1⟩ := by kernel_rfl
@[go_sem] theorem ty12 : tyT Tryd.prog 12 = .int .u64 := by kernel_rfl
@[go_sem] theorem zero12 : zeroT Tryd.prog 12 = some [.int .u64 0] := by kernel_rfl
@[go_sem] theorem lay13 : layT Tryd.prog 13 = some ⟨true, 2⟩ := by kernel_rfl
@[go_sem] theorem ty13 : tyT Tryd.prog 13 = .struct [⟨0, 1, false⟩, ⟨1, 1, false⟩] := by kernel_rfl
@[go_sem] theorem zero13 : zeroT Tryd.prog 13 = some [.str ⟨#[]⟩, .int .u64 0] := by kernel_rfl
@[go_sem] theorem lay14 : layT Tryd.prog 14 = some ⟨true, 2⟩ := by kernel_rfl
@[go_sem] theorem ty14 : tyT Tryd.prog 14 = .struct [⟨0, 1, false⟩, ⟨1, 1, false⟩] := by kernel_rfl
@[go_sem] theorem zero14 : zeroT Tryd.prog 14 = some [.str ⟨#[]⟩, .int .u64 0] := by kernel_rfl
@[go_sem] theorem lay15 : layT Tryd.prog 15 = some ⟨false, 1⟩ := by kernel_rfl
@[go_sem] theorem ty15 : tyT Tryd.prog 15 = .ptr := by kernel_rfl
@[go_sem] theorem zero15 : zeroT Tryd.prog 15 = some [.nilp] := by kernel_rfl
@[go_sem] theorem lay16 : layT Tryd.prog 16 = some ⟨false, 1⟩ := by kernel_rfl
@[go_sem] theorem ty16 : tyT Tryd.prog 16 = .ptr := by kernel_rfl
@[go_sem] theorem zero16 : zeroT Tryd.prog 16 = some [.nilp] := by kernel_rfl
@[go_sem] theorem lay17 : layT Tryd.prog 17 = some ⟨false, 1⟩ := by kernel_rfl
@[go_sem] theorem ty17 : tyT Tryd.prog 17 = .ptr := by kernel_rfl
@[go_sem] theorem zero17 : zeroT Tryd.prog 17 = some [.nilp] := by kernel_rfl
@[go_sem] theorem lay18 : layT Tryd.prog 18 = some ⟨true, 1⟩ := by kernel_rfl
@[go_sem] theorem ty18 : tyT Tryd.prog 18 = .struct [⟨0, 1, false⟩] := by kernel_rfl
@[go_sem] theorem zero18 : zeroT Tryd.prog 18 = some [.nilp] := by kernel_rfl
@[go_sem] theorem lay19 : layT Tryd.prog 19 = some ⟨true, 1⟩ := by kernel_rfl
@[go_sem] theorem ty19 : tyT Tryd.prog 19 = .struct [⟨0, 1, false⟩] := by kernel_rfl
@[go_sem] theorem zero19 : zeroT Tryd.prog 19 = some [.nilp] := by kernel_rfl
@[go_sem] theorem lay21 : layT Tryd.prog 21 = some ⟨false, 1⟩ := by kernel_rfl
@[go_sem] theorem ty21 : tyT Tryd.prog 21 = .int .i32 := by kernel_rfl
@[go_sem] theorem zero21 : zeroT Tryd.prog 21 = some [.int .i32 0] := by kernel_rfl
@[go_sem] theorem lay22 : layT Tryd.prog 22 = some ⟨true, 3⟩ := by kernel_rfl
@[go_sem] theorem ty22 : tyT Tryd.prog 22 = .struct [⟨0, 1, false⟩, ⟨1, 1, false⟩, ⟨2, 1, false⟩] := by kernel_rfl
@[go_sem] theorem zero22 : zeroT Tryd.prog 22 = some [.int .i64 0, .int .i64 0, .int .i64 0] := by kernel_rfl
@[go_sem] theorem lvs22 : leavesT Tryd.prog 9 22 = some [.int, .int, .int] := by kernel_rfl
@[go_sem] theorem isAgg22 : isAggT Tryd.prog 22 = true := by kernel_rfl
@[go_sem] theorem lay23 : layT Tryd.prog 23 = some ⟨true, 3⟩ := by kernel_rfl
@[go_sem] theorem ty23 : tyT Tryd.prog 23 = .struct [⟨0, 1, false⟩, ⟨1, 1, false⟩, ⟨2, 1, false⟩] := by kernel_rfl
@[go_sem] theorem zero23 : zeroT Tryd.prog 23 = some [.int .i64 0, .int .i64 0, .int .i64 0] := by kernel_rfl
@[go_sem] theorem lvs23 : leavesT Tryd.prog 9 23 = some [.int, .int, .int] := by kernel_rfl
@[go_sem] theorem isAgg23 : isAggT Tryd.prog 23 = true := by kernel_rfl
@[go_sem] theorem lay24 : layT Tryd.prog 24 = some ⟨false, 1⟩ := by kernel_rfl
@[go_sem] theorem ty24 : tyT Tryd.prog 24 = .func := by kernel_rfl
@[go_sem] theorem zero24 : zeroT Tryd.prog 24 = some [.nilfn] := by kernel_rfl
@[go_sem] theorem lay25 : layT Tryd.prog 25 = some ⟨false, 1⟩ := by kernel_rfl
@[go_sem] theorem ty25 : tyT Tryd.prog 25 = .func := by kernel_rfl
@[go_sem] theorem zero25 : zeroT Tryd.prog 25 = some [.nilfn] := by kernel_rfl
@[go_sem] theorem lay26 : layT Tryd.prog 26 = some ⟨false, 1⟩ := by kernel_rfl
@[go_sem] theorem ty26 : tyT Tryd.prog 26 = .func := by kernel_rfl
@[go_sem] theorem zero26 : zeroT Tryd.prog 26 = some [.nilfn] := by kernel_rfl
@[go_sem] theorem lay27 : layT Tryd.prog 27 = some ⟨false, 1⟩ := by kernel_rfl
@[go_sem] theorem ty27 : tyT Tryd.prog 27 = .func := by kernel_rfl
@[go_sem] theorem zero27 : zeroT Tryd.prog 27 = some [.nilfn] := by kernel_rfl
@[go_sem] theorem lay28 : layT Tryd.prog 28 = some ⟨false, 1⟩ := by kernel_rfl
@[go_sem] theorem ty28 : tyT Tryd.prog 28 = .func := by kernel_rfl
@[go_sem] theorem zero28 : zeroT Tryd.prog 28 = some [.nilfn] := by kernel_rfl
@[go_sem] theorem lay29 : layT Tryd.prog 29 = some ⟨false, 1⟩ := by kernel_rfl
@[go_sem] theorem ty29 : tyT Tryd.prog 29 = .slice 1 8 false := by kernel_rfl
@[go_sem] theorem zero29 : zeroT Tryd.prog 29 = some [.nil] := by kernel_rfl
@[go_sem] theorem zel29 : zeroElemT Tryd.prog 29 = some [.int .i64 0] := by kernel_rfl
@[go_sem] theorem lay30 : layT Tryd.prog 30 = some ⟨false, 1⟩ := by kernel_rfl
@[go_sem] theorem ty30 : tyT Tryd.prog 30 = .slice 3 24 true := by kernel_rfl
@[go_sem] theorem zero30 : zeroT Tryd.prog 30 = some [.nil] := by kernel_rfl
@[go_sem] theorem zel30 : zeroElemT Tryd.prog 30 = some [.int .i64 0, .int .i64 0, .int .i64 0] := by kernel_rfl
@[go_sem] theorem lay31 : layT Tryd.prog 31 = some ⟨false, 1⟩ := by kernel_rfl
@[go_sem] theorem ty31 : tyT Tryd.prog 31 = .func := by kernel_rfl
@[go_sem] theorem zero31 : zeroT Tryd.prog 31 = some [.nilfn] := by kernel_rfl
@[go_sem] theorem lay32 : layT Tryd.prog 32 = some ⟨false, 1⟩ := by kernel_rfl
@[go_sem] theorem ty32 : tyT Tryd.prog 32 = .func := by kernel_rfl
@[go_sem] theorem zero32 : zeroT Tryd.prog 32 = some [.nilfn] := by kernel_rfl
@[go_sem] theorem lay33 : layT Tryd.prog 33 = some ⟨false, 1⟩ := by kernel_rfl
@[go_sem] theorem ty33 : tyT Tryd.prog 33 = .func := by kernel_rfl
@[go_sem] theorem zero33 : zeroT Tryd.prog 33 = some [.nilfn] := by kernel_rfl
@[go_sem] theorem lay34 : layT Tryd.prog 34 = some ⟨false, 1⟩ := by kernel_rfl
@[go_sem] theorem ty34 : tyT Tryd.prog 34 = .func := by kernel_rfl
@[go_sem] theorem zero34 : zeroT Tryd.prog 34 = some [.nilfn] := by kernel_rfl
@[go_sem] theorem lay35 : layT Tryd.prog 35 = some ⟨false, 1⟩ := by kernel_rfl
@[go_sem] theorem ty35 : tyT Tryd.prog 35 = .int .i64 := by kernel_rfl
@[go_sem] theorem zero35 : zeroT Tryd.prog 35 = some [.int .i64 0] := by kernel_rfl
@[go_sem] theorem lay37 : layT Tryd.prog 37 = some ⟨false, 1⟩ := by kernel_rfl
@[go_sem] theorem ty37 : tyT Tryd.prog 37 = .func := by kernel_rfl
@[go_sem] theorem zero37 : zeroT Tryd.prog 37 = some [.nilfn] := by kernel_rfl
@[go_sem] theorem lay39 : layT Tryd.prog 39 = some ⟨false, 1⟩ := by kernel_rfl
@[go_sem] theorem ty39 : tyT Tryd.prog 39 = .func := by kernel_rfl
@[go_sem] theorem zero39 : zeroT Tryd.prog 39 = some [.nilfn] := by kernel_rfl
@[go_sem] theorem lay40 : layT Tryd.prog 40 = some ⟨false, 1⟩ := by kernel_rfl
@[go_sem] theorem ty40 : tyT Tryd.prog 40 = .func := by kernel_rfl
@[go_sem] theorem zero40 : zeroT Tryd.prog 40 = some [.nilfn] := by kernel_rfl
@[go_sem] theorem lay41 : layT Tryd.prog 41 = some ⟨false, 1⟩ := by kernel_rfl
@[go_sem] theorem ty41 : tyT Tryd.prog 41 = .func := by kernel_rfl
@[go_sem] theorem zero41 : zeroT Tryd.prog 41 = some [.nilfn] := by kernel_rfl
@[go_sem] theorem lay43 : layT Tryd.prog 43 = some ⟨false, 1⟩ := by kernel_rfl
@[go_sem] theorem ty43 : tyT Tryd.prog 43 = .func := by kernel_rfl
@[go_sem] theorem zero43 : zeroT Tryd.prog 43 = some [.nilfn] := by kernel_rfl
@[go_sem] theorem lay44 : layT Tryd.prog 44 = some ⟨false, 1⟩ := by kernel_rfl
@[go_sem] theorem ty44 : tyT Tryd.prog 44 = .func := by kernel_rfl
@[go_sem] theorem zero44 : zeroT Tryd.prog 44 = some [.nilfn] := by kernel_rfl
@[go_sem] theorem lay45 : layT Tryd.prog 45 = some ⟨false, 1⟩ := by kernel_rfl
@[go_sem] theorem ty45 : tyT Tryd.prog 45 = .func := by kernel_rfl
@[go_sem] theorem zero45 : zeroT Tryd.prog 45 = some [.nilfn] := by kernel_rfl
@[go_sem] theorem lay46 : layT Tryd.prog 46 = some ⟨false, 1⟩ := by kernel_rfl
@[go_sem] theorem ty46 : tyT Tryd.prog 46 = .func := by kernel_rfl
@[go_sem] theorem zero46 : zeroT Tryd.prog 46 = some [.nilfn] := by kernel_rfl
@[go_sem] theorem lay47 : layT Tryd.prog 47 = some ⟨false, 1⟩ := by kernel_rfl
@[go_sem] theorem ty47 : tyT Tryd.prog 47 = .slice 1 16 false := by kernel_rfl
@[go_sem] theorem zero47 : zeroT Tryd.prog 47 = some [.nil] := by kernel_rfl
@[go_sem] theorem zel47 : zeroElemT Tryd.prog 47 = some [.str ⟨#[]⟩] := by kernel_rfl
@[go_sem] theorem lay48 : layT Tryd.prog 48 = some ⟨false, 1⟩ := by kernel_rfl
@[go_sem] theorem ty48 : tyT Tryd.prog 48 = .func := by kernel_rfl
@[go_sem] theorem zero48 : zeroT Tryd.prog 48 = some [.nilfn] := by kernel_rfl
@[go_sem] theorem lay49 : layT Tryd.prog 49 = some ⟨true, 7⟩ := by kernel_rfl
@[go_sem] theorem ty49 : tyT Tryd.prog 49 = .arr 7 1 false := by kernel_rfl
@[go_sem] theorem zero49 : zeroT Tryd.prog 49 = some [.str ⟨#[]⟩, .str ⟨#[]⟩, .str ⟨#[]⟩, .str ⟨#[]⟩, .str ⟨#[]⟩, .str ⟨#[]⟩, .str ⟨#[]⟩] := by kernel_rfl
@[go_sem] theorem lvs49 : leavesT Tryd.prog 9 49 = some [.str, .str, .str, .str, .str, .str, .str] := by kernel_rfl
@[go_sem] theorem isAgg49 : isAggT Tryd.prog 49 = true := by kernel_rfl
@[go_sem] theorem lay50 : layT Tryd.prog 50 = some ⟨false, 1⟩ := by kernel_rfl
@[go_sem] theorem ty50 : tyT Tryd.prog 50 = .ptr := by kernel_rfl
@[go_sem] theorem zero50 : zeroT Tryd.prog 50 = some [.nilp] := by kernel_rfl
@[go_sem] theorem lay51 : layT Tryd.prog 51 = some ⟨false, 1⟩ := by kernel_rfl
@[go_sem] theorem ty51 : tyT Tryd.prog 51 = .slice 1 1 false := by kernel_rfl
@[go_sem] theorem zero51 : zeroT Tryd.prog 51 = some [.nil] := by kernel_rfl
@[go_sem] theorem zel51 : zeroElemT Tryd.prog 51 = some [.int .u8 0] := by kernel_rfl
@[go_sem] theorem lay52 : layT Tryd.prog 52 = some ⟨true, 2⟩ := by kernel_rfl
@[go_sem] theorem ty52 : tyT Tryd.prog 52 = .struct [⟨0, 1, false⟩, ⟨1, 1, false⟩] := by kernel_rfl
@[go_sem] theorem zero52 : zeroT Tryd.prog 52 = some [.nilp, .nil] := by kernel_rfl
@[go_sem] theorem lay53 : layT Tryd.prog 53 = some ⟨true, 2⟩ := by kernel_rfl
@[go_sem] theorem ty53 : tyT Tryd.prog 53 = .struct [⟨0, 1, false⟩, ⟨1, 1, false⟩] := by kernel_rfl
@[go_sem] theorem zero53 : zeroT Tryd.prog 53 = some [.nilp, .nil] := by kernel_rfl
@[go_sem] theorem lay54 : layT Tryd.prog 54 = some ⟨false, 1⟩ := by kernel_rfl
@[go_sem] theorem ty54 : tyT Tryd.prog 54 = .func := by kernel_rfl
@[go_sem] theorem zero54 : zeroT Tryd.prog 54 = some [.nilfn] := by kernel_rfl
@[go_sem] theorem lay58 : layT Tryd.prog 58 = some ⟨false, 1⟩ := by kernel_rfl
@[go_sem] theorem ty58 : tyT Tryd.prog 58 = .func := by kernel_rfl
@[go_sem] theorem zero58 : zeroT Tryd.prog 58 = some [.nilfn] := by kernel_rfl
@[go_sem] theorem lay59 : layT Tryd.prog 59 = some ⟨false, 1⟩ := by kernel_rfl
@[go_sem] theorem ty59 : tyT Tryd.prog 59 = .func := by kernel_rfl
@[go_sem] theorem zero59 : zeroT Tryd.prog 59 = some [.nilfn] := by kernel_rfl
@[go_sem] theorem lay60 : layT Tryd.prog 60 = some ⟨false, 1⟩ := by kernel_rfl
@[go_sem] theorem ty60 : tyT Tryd.prog 60 = .func := by kernel_rfl
@[go_sem] theorem zero60 : zeroT Tryd.prog 60 = some [.nilfn] := by kernel_rfl
@[go_sem] theorem lay61 : layT Tryd.prog 61 = some ⟨false, 1⟩ := by kernel_rfl
@[go_sem] theorem ty61 : tyT Tryd.prog 61 = .ptr := by kernel_rfl
@[go_sem] theorem zero61 : zeroT Tryd.prog 61 = some [.nilp] := by kernel_rfl
@[go_sem] theorem lay62 : layT Tryd.prog 62 = some ⟨true, 24⟩ := by kernel_rfl
@[go_sem] theorem ty62 : tyT Tryd.prog 62 = .arr 24 1 false := by kernel_rfl
@[go_sem] theorem zero62 : zeroT Tryd.prog 62 = some [.int .u8 0, .int .u8 0, .int .u8 0, .int .u8 0, .int .u8 0, .int .u8 0, .int .u8 0, .int .u8 0, .int .u8 0, .int .u8 0, .int .u8 0, .int .u8 0, .int .u8 0, .int .u8 0, .int .u8 0, .int .u8 0, .int .u8 0, .int .u8 0, .int .u8 0, .int .u8 0, .int .u8 0, .int .u8 0, .int .u8 0, .int .u8 0] := by kernel_rfl
@[go_sem] theorem lvs62 : leavesT Tryd.prog 9 62 = some [.int, .int, .int, .int, .int, .int, .int, .int, .int, .int, .int, .int, .int, .int, .int, .int, .int, .int, .int, .int, .int, .int, .int, .int] := by kernel_rfl
@[go_sem] theorem isAgg62 : isAggT Tryd.prog 62 = true := by kernel_rfl
@[go_sem] theorem lay63 : layT Tryd.prog 63 = some ⟨false, 1⟩ := by kernel_rfl
@[go_sem] theorem ty63 : tyT Tryd.prog 63 = .int .u64 := by kernel_rfl
@[go_sem] theorem zero63 : zeroT Tryd.prog 63 = some [.int .u64 0] := by kernel_rfl
@[go_sem] theorem lay64 : layT Tryd.prog 64 = some ⟨false, 1⟩ := by kernel_rfl
@[go_sem] theorem ty64 : tyT Tryd.prog 64 = .func := by kernel_rfl
@[go_sem] theorem zero64 : zeroT Tryd.prog 64 = some [.nilfn] := by kernel_rfl
@[go_sem] theorem lay65 : layT Tryd.prog 65 = some ⟨false, 1⟩ := by kernel_rfl
@[go_sem] theorem ty65 : tyT Tryd.prog 65 = .func := by kernel_rfl
@[go_sem] theorem zero65 : zeroT Tryd.prog 65 = some [.nilfn] := by kernel_rfl
@[go_sem] theorem lay67 : layT Tryd.prog 67 = some ⟨false, 1⟩ := by kernel_rfl
@[go_sem] theorem ty67 : tyT Tryd.prog 67 = .func := by kernel_rfl
@[go_sem] theorem zero67 : zeroT Tryd.prog 67 = some [.nilfn] := by kernel_rfl
@[go_sem] theorem lay69 : layT Tryd.prog 69 = some ⟨false, 1⟩ := by kernel_rfl
@[go_sem] theorem ty69 : tyT Tryd.prog 69 = .func := by kernel_rfl
@[go_sem] theorem zero69 : zeroT Tryd.prog 69 = some [.nilfn] := by kernel_rfl
@[go_sem] theorem lay70 : layT Tryd.prog 70 = some ⟨false, 1⟩ := by kernel_rfl
@[go_sem] theorem ty70 : tyT Tryd.prog 70 = .func := by kernel_rfl
@[go_sem] theorem zero70 : zeroT Tryd.prog 70 = some [.nilfn] := by kernel_rfl
@[go_sem] theorem lay71 : layT Tryd.prog 71 = some ⟨false, 1⟩ := by kernel_rfl
@[go_sem] theorem ty71 : tyT Tryd.prog 71 = .func := by kernel_rfl
@[go_sem] theorem zero71 : zeroT Tryd.prog 71 = some [.nilfn] := by kernel_rfl
@[go_sem] theorem lay72 : layT Tryd.prog 72 = some ⟨false, 1⟩ := by kernel_rfl
@[go_sem] theorem ty72 : tyT Tryd.prog 72 = .func := by kernel_rfl
@[go_sem] theorem zero72 : zeroT Tryd.prog 72 = some [.nilfn] := by kernel_rfl
@[go_sem] theorem lay73 : layT Tryd.prog 73 = some ⟨true, 20⟩ := by kernel_rfl
@[go_sem] theorem ty73 : tyT Tryd.prog 73 = .arr 20 1 false := by kernel_rfl
@[go_sem] theorem zero73 : zeroT Tryd.prog 73 = some [.int .u64 0, .int .u64 0, .int .u64 0, .int .u64 0, .int .u64 0, .int .u64 0, .int .u64 0, .int .u64 0, .int .u64 0, .int .u64 0, .int .u64 0, .int .u64 0, .int .u64 0, .int .u64 0, .int .u64 0, .int .u64 0, .int .u64 0, .int .u64 0, .int .u64 0, .int .u64 0] := by kernel_rfl
@[go_sem] theorem lvs73 : leavesT Tryd.prog 9 73 = some [.int, .int, .int, .int, .int, .int, .int, .int, .int, .int, .int, .int, .int, .int, .int, .int, .int, .int, .int, .int] := by kernel_rfl
@[go_sem] theorem isAgg73 : isAggT Tryd.prog 73 = true := by kernel_rfl
@[go_sem] theorem lay74 : layT Tryd.prog 74 = some ⟨false, 1⟩ := by kernel_rfl
@[go_sem] theorem ty74 : tyT Tryd.prog 74 = .int .u32 := by kernel_rfl
@[go_sem] theorem zero74 : zeroT Tryd.prog 74 = some [.int .u32 0] := by kernel_rfl
@[go_sem] theorem lay75 : layT Tryd.prog 75 = some ⟨true, 65⟩ := by kernel_rfl
@[go_sem] theorem ty75 : tyT Tryd.prog 75 = .arr 65 1 false := by kernel_rfl
@[go_sem] theorem zero75 : zeroT Tryd.prog 75 = some [.int .u8 0, .int .u8 0, .int .u8 0, .int .u8 0, .int .u8 0, .int .u8 0, .int .u8 0, .int .u8 0, .int .u8 0, .int .u8 0, .int .u8 0, .int .u8 0, .int .u8 0, .int .u8 0, .int .u8 0, .int .u8 0, .int .u8 0, .int .u8 0, .int .u8 0, .int .u8 0, .int .u8 0, .int .u8 0, .int .u8 0, .int .u8 0, .int .u8 0, .int .u8 0, .int .u8 0, .int .u8 0, .int .u8 0, .int .u8 0, .int .u8 0, .int .u8 0, .int .u8 0, .int .u8 0, .int .u8 0, .int .u8 0, .int .u8 0, .int .u8 0, .int .u8 0, .int .u8 0, .int .u8 0, .int .u8 0, .int .u8 0, .int .u8 0, .int .u8 0, .int .u8 0, .int .u8 0, .int .u8 0, .int .u8 0, .int .u8 0, .int .u8 0, .int .u8 0, .int .u8 0, .int .u8 0, .int .u8 0, .int .u8 0, .int .u8 0, .int .u8 0, .int .u8 0, .int .u8 0, .int .u8 0, .int .u8 0, .int .u8 0, .int .u8 0, .int .u8 0] := by kernel_rfl
@[go_sem] theorem lay76 : layT Tryd.prog 76 = some ⟨false, 1⟩ := by kernel_rfl
@[go_sem] theorem ty76 : tyT Tryd.prog 76 = .int .u64 := by kernel_rfl
@[go_sem] theorem zero76 : zeroT Tryd.prog 76 = some [.int .u64 0] := by kernel_rfl
@[go_sem] theorem lay77 : layT Tryd.prog 77 = some ⟨false, 1⟩ := by kernel_rfl
@[go_sem] theorem ty77 : tyT Tryd.prog 77 = .func := by kernel_rfl
@[go_sem] theorem zero77 : zeroT Tryd.prog 77 = some [.nilfn] := by kernel_rfl
@[go_sem] theorem lay78 : layT Tryd.prog 78 = some ⟨false, 1⟩ := by kernel_rfl
@[go_sem] theorem ty78 : tyT Tryd.prog 78 = .func := by kernel_rfl
@[go_sem] theorem zero78 : zeroT Tryd.prog 78 = some [.nilfn] := by kernel_rfl
@[go_sem] theorem lay79 : layT Tryd.prog 79 = some ⟨true, 32⟩ := by kernel_rfl
@[go_sem] theorem ty79 : tyT Tryd.prog 79 = .arr 32 1 false := by kernel_rfl
@[go_sem] theorem zero79 : zeroT Tryd.prog 79 = some [.int .u8 0, .int .u8 0, .int .u8 0, .int .u8 0, .int .u8 0, .int .u8 0, .int .u8 0, .int .u8 0, .int .u8 0, .int .u8 0, .int .u8 0, .int .u8 0, .int .u8 0, .int .u8 0, .int .u8 0, .int .u8 0, .int .u8 0, .int .u8 0, .int .u8 0, .int .u8 0, .int .u8 0, .int .u8 0, .int .u8 0, .int .u8 0, .int .u8 0, .int .u8 0, .int .u8 0, .int .u8 0, .int .u8 0, .int .u8 0, .int .u8 0, .int .u8 0] := by kernel_rfl
@[go_sem] theorem lvs79 : leavesT Tryd.prog 9 79 = some [.int, .int, .int, .int, .int, .int, .int, .int, .int, .int, .int, .int, .int, .int, .int, .int, .int, .int, .int, .int, .int, .int, .int, .int, .int, .int, .int, .int, .int, .int, .int, .int] := by kernel_rfl
@[go_sem] theorem isAgg79 : isAggT Tryd.prog 79 = true := by kernel_rfl
@[go_sem] theorem lay80 : layT Tryd.prog 80 = some ⟨true, 64⟩ := by kernel_rfl
@[go_sem] theorem ty80 : tyT Tryd.prog 80 = .arr 64 1 false := by kernel_rfl
@[go_sem] theorem zero80 : zeroT Tryd.prog 80 = some [.int .u8 0, .int .u8 0, .int .u8 0, .int .u8 0, .int .u8 0, .int .u8 0, .int .u8 0, .int .u8 0, .int .u8 0, .int .u8 0, .int .u8 0, .int .u8 0, .int .u8 0, .int .u8 0, .int .u8 0, .int .u8 0, .int .u8 0, .int .u8 0, .int .u8 0, .int .u8 0, .int .u8 0, .int .u8 0, .int .u8 0, .int .u8 0, .int .u8 0, .int .u8 0, .int .u8 0, .int .u8 0, .int .u8 0, .int .u8 0, .int .u8 0, .int .u8 0, .int .u8 0, .int .u8 0, .int .u8 0, .int .u8 0, .int .u8 0, .int .u8 0, .int .u8 0, .int .u8 0, .int .u8 0, .int .u8 0, .int .u8 0, .int .u8 0, .int .u8 0, .int .u8 0, .int .u8 0, .int .u8 0, .int .u8 0, .int .u8 0, .int .u8 0, .int .u8 0, .int .u8 0, .int .u8 0, .int .u8 0, .int .u8 0, .int .u8 0, .int .u8 0, .int .u8 0, .int .u8 0, .int .u8 0, .int .u8 0, .int .u8 0, .int .u8 0] := by kernel_rfl
@[go_sem] theorem lay81 : layT Tryd.prog 81 = some ⟨true, 4⟩ := by kernel_rfl
@[go_sem] theorem ty81 : tyT Tryd.prog 81 = .struct [⟨0, 1, false⟩, ⟨1, 1, false⟩, ⟨2, 1, false⟩, ⟨3, 1, false⟩] := by kernel_rfl
@[go_sem] theorem zero81 : zeroT Tryd.prog 81 = some [.nilp, .nilp, .nilp, .str ⟨#[]⟩] := by kernel_rfl
@[go_sem] theorem lay82 : layT Tryd.prog 82 = some ⟨true, 4⟩ := by kernel_rfl
@[go_sem] theorem ty82 : tyT Tryd.prog 82 = .struct [⟨0, 1, false⟩, ⟨1, 1, false⟩, ⟨2, 1, false⟩, ⟨3, 1, false⟩] := by kernel_rfl
@[go_sem] theorem zero82 : zeroT Tryd.prog 82 = some [.nilp, .nilp, .nilp, .str ⟨#[]⟩] := by kernel_rfl
@[go_sem] theorem lay83 : layT Tryd.prog 83 = some ⟨true, 0⟩ := by kernel_rfl
@[go_sem] theorem ty83 : tyT Tryd.prog 83 = .arr 0 1 false := by kernel_rfl
@[go_sem] theorem zero83 : zeroT Tryd.prog 83 = some [] := by kernel_rfl
@[go_sem] theorem lay84 : layT Tryd.prog 84 = some ⟨true, 0⟩ := by kernel_rfl
@[go_sem] theorem lay85 : layT Tryd.prog 85 = some ⟨true, 0⟩ := by kernel_rfl
@[go_sem] theorem lay86 : layT Tryd.prog 86 = some ⟨false, 1⟩ := by kernel_rfl
@[go_sem] theorem ty86 : tyT Tryd.prog 86 = .func := by kernel_rfl
@[go_sem] theorem zero86 : zeroT Tryd.prog 86 = some [.nilfn] := by kernel_rfl
@[go_sem] theorem lay87 : layT Tryd.prog 87 = some ⟨false, 1⟩ := by kernel_rfl
@[go_sem] theorem ty87 : tyT Tryd.prog 87 = .int .u8 := by kernel_rfl
@[go_sem] theorem zero87 : zeroT Tryd.prog 87 = some [.int .u8 0] := by kernel_rfl
@[go_sem] theorem lay88 : layT Tryd.prog 88 = some ⟨false, 1⟩ := by kernel_rfl
@[go_sem] theorem ty88 : tyT Tryd.prog 88 = .int .u8 := by kernel_rfl
@[go_sem] theorem zero88 : zeroT Tryd.prog 88 = some [.int .u8 0] := by kernel_rfl
@[go_sem] theorem lay89 : layT Tryd.prog 89 = some ⟨false, 1⟩ := by kernel_rfl
@[go_sem] theorem ty89 : tyT Tryd.prog 89 = .func := by kernel_rfl
@[go_sem] theorem zero89 : zeroT Tryd.prog 89 = some [.nilfn] := by kernel_rfl
@[go_sem] theorem lay90 : layT Tryd.prog 90 = some ⟨false, 1⟩ := by kernel_rfl
@[go_sem] theorem ty90 : tyT Tryd.prog 90 = .int .i32 := by kernel_rfl
@[go_sem] theorem zero90 : zeroT Tryd.prog 90 = some [.int .i32 0] := by kernel_rfl
@[go_sem] theorem lay91 : layT Tryd.prog 91 = some ⟨false, 1⟩ := by kernel_rfl
@[go_sem] theorem ty91 : tyT Tryd.prog 91 = .int .i32 := by kernel_rfl
@[go_sem] theorem zero91 : zeroT Tryd.prog 91 = some [.int .i32 0] := by kernel_rfl
@[go_sem] theorem lay92 : layT Tryd.prog 92 = some ⟨true, 11⟩ := by kernel_rfl
@[go_sem] theorem ty92 : tyT Tryd.prog 92 = .struct [⟨0, 1, false⟩, ⟨1, 1, false⟩, ⟨2, 1, false⟩, ⟨3, 1, false⟩, ⟨4, 1, false⟩, ⟨5, 1, false⟩, ⟨6, 1, false⟩, ⟨7, 1, false⟩, ⟨8, 1, false⟩, ⟨9, 1, false⟩, ⟨10, 1, false⟩] := by kernel_rfl
@[go_sem] theorem zero92 : zeroT Tryd.prog 92 = some [.int .u64 0, .int .u64 0, .int .u32 0, .int .u8 0, .int .u8 0, .int .u8 0, .int .u8 0, .nilfn, .nilp, .int .i32 0, .int .i32 0] := by kernel_rfl
@[go_sem] theorem lay93 : layT Tryd.prog 93 = some ⟨true, 11⟩ := by kernel_rfl
@[go_sem] theorem ty93 : tyT Tryd.prog 93 = .struct [⟨0, 1, false⟩, ⟨1, 1, false⟩, ⟨2, 1, false⟩, ⟨3, 1, false⟩, ⟨4, 1, false⟩, ⟨5, 1, false⟩, ⟨6, 1, false⟩, ⟨7, 1, false⟩, ⟨8, 1, false⟩, ⟨9, 1, false⟩, ⟨10, 1, false⟩] := by kernel_rfl
@[go_sem] theorem zero93 : zeroT Tryd.prog 93 = some [.int .u64 0, .int .u64 0, .int .u32 0, .int .u8 0, .int .u8 0, .int .u8 0, .int .u8 0, .nilfn, .nilp, .int .i32 0, .int .i32 0] := by kernel_rfl
end Go.Proofs.YthgplioeefjbfaaDoor
