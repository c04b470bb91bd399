/- What the types of this seat's translation say, a closed fact each; no theorem of a claim. -/
import Derived.Test.YtdklpddmplflgaaDoorRows
import Derived.Test.YtdklpddmplflgaaDoorAbcEval2
namespace Go.Proofs.YtdklpddmplflgaaDoor
open Go.Abs
theorem mixed : Tryd.prog.follows .mixedOrders = true := by kernel_rfl
@[go_sem] theorem lay1 : layT Tryd.prog 1 = some ⟨false, 1⟩ := by kernel_rfl
@[go_sem] theorem ty1 : tyT Tryd.prog 1 = .func := by kernel_rfl
@[go_sem] theorem zero1 : zeroT Tryd.prog 1 = some [.nilfn] := by kernel_rfl
@[go_sem] theorem lay2 : layT Tryd.prog 2 = some ⟨false, 1⟩ := by kernel_rfl
@[go_sem] theorem ty2 : tyT Tryd.prog 2 = .int .i64 := by kernel_rfl
@[go_sem] theorem zero2 : zeroT Tryd.prog 2 = some [.int .i64 0] := by kernel_rfl
@[go_sem] theorem lay3 : layT Tryd.prog 3 = some ⟨false, 1⟩ := by kernel_rfl
@[go_sem] theorem ty3 : tyT Tryd.prog 3 = .int .i64 := by kernel_rfl
@[go_sem] theorem zero3 : zeroT Tryd.prog 3 = some [.int .i64 0] := by kernel_rfl
@[go_sem] theorem lay4 : layT Tryd.prog 4 = some ⟨false, 1⟩ := by kernel_rfl
@[go_sem] theorem ty4 : tyT Tryd.prog 4 = .bool := by kernel_rfl
@[go_sem] theorem zero4 : zeroT Tryd.prog 4 = some [.bool false] := by kernel_rfl
@[go_sem] theorem lay5 : layT Tryd.prog 5 = some ⟨false, 1⟩ := by kernel_rfl
@[go_sem] theorem ty5 : tyT Tryd.prog 5 = .int .u8 := by kernel_rfl
@[go_sem] theorem zero5 : zeroT Tryd.prog 5 = some [.int .u8 0] := by kernel_rfl
@[go_sem] theorem lay6 : layT Tryd.prog 6 = some ⟨false, 1⟩ := by kernel_rfl
@[go_sem] theorem ty6 : tyT Tryd.prog 6 = .int .u8 := by kernel_rfl
@[go_sem] theorem zero6 : zeroT Tryd.prog 6 = some [.int .u8 0] := by kernel_rfl
@[go_sem] theorem lay7 : layT Tryd.prog 7 = some ⟨true, 4⟩ := by kernel_rfl
@[go_sem] theorem ty7 : tyT Tryd.prog 7 = .struct [⟨0, 1, false⟩, ⟨1, 1, false⟩, ⟨2, 1, false⟩, ⟨3, 1, false⟩] := by kernel_rfl
@[go_sem] theorem zero7 : zeroT Tryd.prog 7 = some [.int .i64 0, .int .i64 0, .bool false, .int .u8 0] := by kernel_rfl
@[go_sem] theorem lay8 : layT Tryd.prog 8 = some ⟨true, 4⟩ := by kernel_rfl
@[go_sem] theorem ty8 : tyT Tryd.prog 8 = .struct [⟨0, 1, false⟩, ⟨1, 1, false⟩, ⟨2, 1, false⟩, ⟨3, 1, false⟩] := by kernel_rfl
@[go_sem] theorem zero8 : zeroT Tryd.prog 8 = some [.int .i64 0, .int .i64 0, .bool false, .int .u8 0] := by kernel_rfl
@[go_sem] theorem lay9 : layT Tryd.prog 9 = some ⟨false, 1⟩ := by kernel_rfl
@[go_sem] theorem ty9 : tyT Tryd.prog 9 = .str := by kernel_rfl
@[go_sem] theorem zero9 : zeroT Tryd.prog 9 = some [.str ⟨#[]⟩] := by kernel_rfl
@[go_sem] theorem lay10 : layT Tryd.prog 10 = some ⟨false, 1⟩ := by kernel_rfl
@[go_sem] theorem ty10 : tyT Tryd.prog 10 = .str := by kernel_rfl
@[go_sem] theorem zero10 : zeroT Tryd.prog 10 = some [.str ⟨#[]⟩] := by kernel_rfl
@[go_sem] theorem lay11 : layT Tryd.prog 11 = some ⟨false, 1⟩ := by kernel_rfl
@[go_sem] theorem ty11 : tyT Tryd.prog 11 = .str := by kernel_rfl
@[go_sem] theorem zero11 : zeroT Tryd.prog 11 = some [.str ⟨#[]⟩] := by kernel_rfl
@[go_sem] theorem lay12 : layT Tryd.prog 12 = some ⟨false, 1⟩ := by kernel_rfl
@[go_sem] theorem ty12 : tyT Tryd.prog 12 = .int .u64 := by kernel_rfl
@[go_sem] theorem zero12 : zeroT Tryd.prog 12 = some [.int .u64 0] := by kernel_rfl
@[go_sem] theorem lay13 : layT Tryd.prog 13 = some ⟨true, 2⟩ := by kernel_rfl
@[go_sem] theorem ty13 : tyT Tryd.prog 13 = .struct [⟨0, 1, false⟩, ⟨1, 1, false⟩] := by kernel_rfl
@[go_sem] theorem zero13 : zeroT Tryd.prog 13 = some [.str ⟨#[]⟩, .int .u64 0] := by kernel_rfl
@[go_sem] theorem lay14 : layT Tryd.prog 14 = some ⟨true, 2⟩ := by kernel_rfl
@[go_sem] theorem ty14 : tyT Tryd.prog 14 = .struct [⟨0, 1, false⟩, ⟨1, 1, false⟩] := by kernel_rfl
@[go_sem] theorem zero14 : zeroT Tryd.prog 14 = some [.str ⟨#[]⟩, .int .u64 0] := by kernel_rfl
@[go_sem] theorem lay15 : layT Tryd.prog 15 = some ⟨false, 1⟩ := by kernel_rfl
@[go_sem] theorem ty15 : tyT Tryd.prog 15 = .ptr := by kernel_rfl
@[go_sem] theorem zero15 : zeroT Tryd.prog 15 = some [.nilp] := by kernel_rfl
@[go_sem] theorem lay16 : layT Tryd.prog 16 = some ⟨false, 1⟩ := by kernel_rfl
@[go_sem] theorem ty16 : tyT Tryd.prog 16 = .ptr := by kernel_rfl
@[go_sem] theorem zero16 : zeroT Tryd.prog 16 = some [.nilp] := by kernel_rfl
@[go_sem] theorem lay17 : layT Tryd.prog 17 = some ⟨false, 1⟩ := by kernel_rfl
@[go_sem] theorem ty17 : tyT Tryd.prog 17 = .ptr := by kernel_rfl
@[go_sem] theorem zero17 : zeroT Tryd.prog 17 = some [.nilp] := by kernel_rfl
@[go_sem] theorem lay18 : layT Tryd.prog 18 = some ⟨true, 1⟩ := by kernel_rfl
@[go_sem] theorem ty18 : tyT Tryd.prog 18 = .struct [⟨0, 1, false⟩] := by kernel_rfl
@[go_sem] theorem zero18 : zeroT Tryd.prog 18 = some [.nilp] := by kernel_rfl
@[go_sem] theorem lay19 : layT Tryd.prog 19 = some ⟨true, 1⟩ := by kernel_rfl
@[go_sem] theorem ty19 : tyT Tryd.prog 19 = .struct [⟨0, 1, false⟩] := by kernel_rfl
@[go_sem] theorem zero19 : zeroT Tryd.prog 19 = some [.nilp] := by kernel_rfl
@[go_sem] theorem lay21 : layT Tryd.prog 21 = some ⟨false, 1⟩ := by kernel_rfl
@[go_sem] theorem ty21 : tyT Tryd.prog 21 = .int .i32 := by kernel_rfl
@[go_sem] theorem zero21 : zeroT Tryd.prog 21 = some [.int .i32 0] := by kernel_rfl
@[go_sem] theorem lay22 : layT Tryd.prog 22 = some ⟨true, 6⟩ := by kernel_rfl
@[go_sem] theorem ty22 : tyT Tryd.prog 22 = .arr 6 1 false := by kernel_rfl
@[go_sem] theorem zero22 : zeroT Tryd.prog 22 = some [.int .i64 0, .int .i64 0, .int .i64 0, .int .i64 0, .int .i64 0, .int .i64 0] := by kernel_rfl
@[go_sem] theorem lvs22 : leavesT Tryd.prog 9 22 = some [.int, .int, .int, .int, .int, .int] := by kernel_rfl
@[go_sem] theorem isAgg22 : isAggT Tryd.prog 22 = true := by kernel_rfl
@[go_sem] theorem lay23 : layT Tryd.prog 23 = some ⟨true, 17⟩ := by kernel_rfl
@[go_sem] theorem ty23 : tyT Tryd.prog 23 = .struct [⟨0, 1, false⟩, ⟨1, 1, false⟩, ⟨2, 1, false⟩, ⟨3, 1, false⟩, ⟨4, 1, false⟩, ⟨5, 1, false⟩, ⟨6, 1, false⟩, ⟨7, 1, false⟩, ⟨8, 1, false⟩, ⟨9, 1, false⟩, ⟨10, 1, false⟩, ⟨11, 6, true⟩] := by kernel_rfl
@[go_sem] theorem zero23 : zeroT Tryd.prog 23 = some [.int .i64 0, .int .i64 0, .int .i64 0, .int .i64 0, .int .i64 0, .int .i64 0, .int .i64 0, .int .i64 0, .int .i64 0, .int .i64 0, .int .i64 0, .int .i64 0, .int .i64 0, .int .i64 0, .int .i64 0, .int .i64 0, .int .i64 0] := by kernel_rfl
@[go_sem] theorem lvs23 : leavesT Tryd.prog 9 23 = some [.int, .int, .int, .int, .int, .int, .int, .int, .int, .int, .int, .int, .int, .int, .int, .int, .int] := by kernel_rfl
@[go_sem] theorem isAgg23 : isAggT Tryd.prog 23 = true := by kernel_rfl
@[go_sem] theorem lay24 : layT Tryd.prog 24 = some ⟨true, 17⟩ := by kernel_rfl
@[go_sem] theorem ty24 : tyT Tryd.prog 24 = .struct [⟨0, 1, false⟩, ⟨1, 1, false⟩, ⟨2, 1, false⟩, ⟨3, 1, false⟩, ⟨4, 1, false⟩, ⟨5, 1, false⟩, ⟨6, 1, false⟩, ⟨7, 1, false⟩, ⟨8, 1, false⟩, ⟨9, 1, false⟩, ⟨10, 1, false⟩, ⟨11, 6, true⟩] := by kernel_rfl
@[go_sem] theorem zero24 : zeroT Tryd.prog 24 = some [.int .i64 0, .int .i64 0, .int .i64 0, .int .i64 0, .int .i64 0, .int .i64 0, .int .i64 0, .int .i64 0, .int .i64 0, .int .i64 0, .int .i64 0, .int .i64 0, .int .i64 0, .int .i64 0, .int .i64 0, .int .i64 0, .int .i64 0] := by kernel_rfl
@[go_sem] theorem lvs24 : leavesT Tryd.prog 9 24 = some [.int, .int, .int, .int, .int, .int, .int, .int, .int, .int, .int, .int, .int, .int, .int, .int, .int] := by kernel_rfl
@[go_sem] theorem isAgg24 : isAggT Tryd.prog 24 = true := by kernel_rfl
@[go_sem] theorem lay25 : layT Tryd.prog 25 = some ⟨false, 1⟩ := by kernel_rfl
@[go_sem] theorem ty25 : tyT Tryd.prog 25 = .int .i64 := by kernel_rfl
@[go_sem] theorem zero25 : zeroT Tryd.prog 25 = some [.int .i64 0] := by kernel_rfl
@[go_sem] theorem lay27 : layT Tryd.prog 27 = some ⟨false, 1⟩ := by kernel_rfl
@[go_sem] theorem ty27 : tyT Tryd.prog 27 = .func := by kernel_rfl
@[go_sem] theorem zero27 : zeroT Tryd.prog 27 = some [.nilfn] := by kernel_rfl
@[go_sem] theorem lay29 : layT Tryd.prog 29 = some ⟨false, 1⟩ := by kernel_rfl
@[go_sem] theorem ty29 : tyT Tryd.prog 29 = .func := by kernel_rfl
@[go_sem] theorem zero29 : zeroT Tryd.prog 29 = some [.nilfn] := by kernel_rfl
@[go_sem] theorem lay30 : layT Tryd.prog 30 = some ⟨false, 1⟩ := by kernel_rfl
@[go_sem] theorem ty30 : tyT Tryd.prog 30 = .func := by kernel_rfl
@[go_sem] theorem zero30 : zeroT Tryd.prog 30 = some [.nilfn] := by kernel_rfl
@[go_sem] theorem lay31 : layT Tryd.prog 31 = some ⟨false, 1⟩ := by kernel_rfl
@[go_sem] theorem ty31 : tyT Tryd.prog 31 = .func := by kernel_rfl
@[go_sem] theorem zero31 : zeroT Tryd.prog 31 = some [.nilfn] := by kernel_rfl
@[go_sem] theorem lay32 : layT Tryd.prog 32 = some ⟨false, 1⟩ := by kernel_rfl
@[go_sem] theorem ty32 : tyT Tryd.prog 32 = .func := by kernel_rfl
@[go_sem] theorem zero32 : zeroT Tryd.prog 32 = some [.nilfn] := by kernel_rfl
@[go_sem] theorem lay33 : layT Tryd.prog 33 = some ⟨false, 1⟩ := by kernel_rfl
@[go_sem] theorem ty33 : tyT Tryd.prog 33 = .func := by kernel_rfl
@[go_sem] theorem zero33 : zeroT Tryd.prog 33 = some [.nilfn] := by kernel_rfl
@[go_sem] theorem lay34 : layT Tryd.prog 34 = some ⟨false, 1⟩ := by kernel_rfl
@[go_sem] theorem ty34 : tyT Tryd.prog 34 = .func := by kernel_rfl
@[go_sem] theorem zero34 : zeroT Tryd.prog 34 = some [.nilfn] := by kernel_rfl
@[go_sem] theorem lay36 : layT Tryd.prog 36 = some ⟨false, 1⟩ := by kernel_rfl
@[go_sem] theorem ty36 : tyT Tryd.prog 36 = .func := by kernel_rfl
@[go_sem] theorem zero36 : zeroT Tryd.prog 36 = some [.nilfn] := by kernel_rfl
@[go_sem] theorem lay37 : layT Tryd.prog 37 = some ⟨false, 1⟩ := by kernel_rfl
@[go_sem] theorem ty37 : tyT Tryd.prog 37 = .func := by kernel_rfl
@[go_sem] theorem zero37 : zeroT Tryd.prog 37 = some [.nilfn] := by kernel_rfl
@[go_sem] theorem lay38 : layT Tryd.prog 38 = some ⟨false, 1⟩ := by kernel_rfl
@[go_sem] theorem ty38 : tyT Tryd.prog 38 = .slice 3 24 true := by kernel_rfl
@[go_sem] theorem zero38 : zeroT Tryd.prog 38 = some [.nil] := by kernel_rfl
@[go_sem] theorem zel38 : zeroElemT Tryd.prog 38 = some [.int .i64 0, .int .i64 0, .int .i64 0] := by kernel_rfl
@[go_sem] theorem lay39 : layT Tryd.prog 39 = some ⟨false, 1⟩ := by kernel_rfl
@[go_sem] theorem ty39 : tyT Tryd.prog 39 = .slice 8 64 true := by kernel_rfl
@[go_sem] theorem zero39 : zeroT Tryd.prog 39 = some [.nil] := by kernel_rfl
@[go_sem] theorem zel39 : zeroElemT Tryd.prog 39 = some [.int .i64 0, .int .i64 0, .int .i64 0, .int .i64 0, .int .i64 0, .int .i64 0, .int .i64 0, .int .i64 0] := by kernel_rfl
@[go_sem] theorem lay40 : layT Tryd.prog 40 = some ⟨true, 5⟩ := by kernel_rfl
@[go_sem] theorem ty40 : tyT Tryd.prog 40 = .struct [⟨0, 1, false⟩, ⟨1, 1, false⟩, ⟨2, 1, false⟩, ⟨3, 1, false⟩, ⟨4, 1, false⟩] := by kernel_rfl
@[go_sem] theorem zero40 : zeroT Tryd.prog 40 = some [.int .i64 0, .int .i64 0, .int .i64 0, .nil, .nil] := by kernel_rfl
@[go_sem] theorem lay41 : layT Tryd.prog 41 = some ⟨true, 5⟩ := by kernel_rfl
@[go_sem] theorem ty41 : tyT Tryd.prog 41 = .struct [⟨0, 1, false⟩, ⟨1, 1, false⟩, ⟨2, 1, false⟩, ⟨3, 1, false⟩, ⟨4, 1, false⟩] := by kernel_rfl
@[go_sem] theorem zero41 : zeroT Tryd.prog 41 = some [.int .i64 0, .int .i64 0, .int .i64 0, .nil, .nil] := by kernel_rfl
@[go_sem] theorem lay42 : layT Tryd.prog 42 = some ⟨false, 1⟩ := by kernel_rfl
@[go_sem] theorem ty42 : tyT Tryd.prog 42 = .func := by kernel_rfl
@[go_sem] theorem zero42 : zeroT Tryd.prog 42 = some [.nilfn] := by kernel_rfl
@[go_sem] theorem lay43 : layT Tryd.prog 43 = some ⟨false, 1⟩ := by kernel_rfl
@[go_sem] theorem ty43 : tyT Tryd.prog 43 = .func := by kernel_rfl
@[go_sem] theorem zero43 : zeroT Tryd.prog 43 = some [.nilfn] := by kernel_rfl
@[go_sem] theorem lay45 : layT Tryd.prog 45 = some ⟨false, 1⟩ := by kernel_rfl
@[go_sem] theorem ty45 : tyT Tryd.prog 45 = .func := by kernel_rfl
@[go_sem] theorem zero45 : zeroT Tryd.prog 45 = some [.nilfn] := by kernel_rfl
@[go_sem] theorem lay46 : layT Tryd.prog 46 = some ⟨false, 1⟩ := by kernel_rfl
@[go_sem] theorem ty46 : tyT Tryd.prog 46 = .func := by kernel_rfl
@[go_sem] theorem zero46 : zeroT Tryd.prog 46 = some [.nilfn] := by kernel_rfl
@[go_sem] theorem lay47 : layT Tryd.prog 47 = some ⟨false, 1⟩ := by kernel_rfl
@[go_sem] theorem ty47 : tyT Tryd.prog 47 = .slice 1 16 false := by kernel_rfl
@[go_sem] theorem zero47 : zeroT Tryd.prog 47 = some [.nil] := by kernel_rfl
@[go_sem] theorem zel47 : zeroElemT Tryd.prog 47 = some [.str ⟨#[]⟩] := by kernel_rfl
@[go_sem] theorem lay48 : layT Tryd.prog 48 = some ⟨false, 1⟩ := by kernel_rfl
@[go_sem] theorem ty48 : tyT Tryd.prog 48 = .func := by kernel_rfl
@[go_sem] theorem zero48 : zeroT Tryd.prog 48 = some [.nilfn] := by kernel_rfl
@[go_sem] theorem lay49 : layT Tryd.prog 49 = some ⟨false, 1⟩ := by kernel_rfl
@[go_sem] theorem ty49 : tyT Tryd.prog 49 = .func := by kernel_rfl
@[go_sem] theorem zero49 : zeroT Tryd.prog 49 = some [.nilfn] := by kernel_rfl
@[go_sem] theorem lay50 : layT Tryd.prog 50 = some ⟨false, 1⟩ := by kernel_rfl
@[go_sem] theorem ty50 : tyT Tryd.prog 50 = .slice 1 8 false := by kernel_rfl
@[go_sem] theorem zero50 : zeroT Tryd.prog 50 = some [.nil] := by kernel_rfl
@[go_sem] theorem zel50 : zeroElemT Tryd.prog 50 = some [.nilp] := by kernel_rfl
@[go_sem] theorem lay51 : layT Tryd.prog 51 = some ⟨false, 1⟩ := by kernel_rfl
@[go_sem] theorem ty51 : tyT Tryd.prog 51 = .ptr := by kernel_rfl
@[go_sem] theorem zero51 : zeroT Tryd.prog 51 = some [.nilp] := by kernel_rfl
@[go_sem] theorem lay52 : layT Tryd.prog 52 = some ⟨false, 1⟩ := by kernel_rfl
@[go_sem] theorem ty52 : tyT Tryd.prog 52 = .func := by kernel_rfl
@[go_sem] theorem zero52 : zeroT Tryd.prog 52 = some [.nilfn] := by kernel_rfl
@[go_sem] theorem lay53 : layT Tryd.prog 53 = some ⟨false, 1⟩ := by kernel_rfl
@[go_sem] theorem ty53 : tyT Tryd.prog 53 = .ptr := by kernel_rfl
@[go_sem] theorem zero53 : zeroT Tryd.prog 53 = some [.nilp] := by kernel_rfl
@[go_sem] theorem lay55 : layT Tryd.prog 55 = some ⟨false, 1⟩ := by kernel_rfl
@[go_sem] theorem ty55 : tyT Tryd.prog 55 = .func := by kernel_rfl
@[go_sem] theorem zero55 : zeroT Tryd.prog 55 = some [.nilfn] := by kernel_rfl
@[go_sem] theorem lay56 : layT Tryd.prog 56 = some ⟨false, 1⟩ := by kernel_rfl
@[go_sem] theorem ty56 : tyT Tryd.prog 56 = .func := by kernel_rfl
@[go_sem] theorem zero56 : zeroT Tryd.prog 56 = some [.nilfn] := by kernel_rfl
@[go_sem] theorem lay57 : layT Tryd.prog 57 = some ⟨false, 1⟩ := by kernel_rfl
@[go_sem] theorem ty57 : tyT Tryd.prog 57 = .slice 1 8 false := by kernel_rfl
@[go_sem] theorem zero57 : zeroT Tryd.prog 57 = some [.nil] := by kernel_rfl
@[go_sem] theorem zel57 : zeroElemT Tryd.prog 57 = some [.int .i64 0] := by kernel_rfl
@[go_sem] theorem lay58 : layT Tryd.prog 58 = some ⟨false, 1⟩ := by kernel_rfl
@[go_sem] theorem ty58 : tyT Tryd.prog 58 = .func := by kernel_rfl
@[go_sem] theorem zero58 : zeroT Tryd.prog 58 = some [.nilfn] := by kernel_rfl
@[go_sem] theorem lay59 : layT Tryd.prog 59 = some ⟨false, 1⟩ := by kernel_rfl
@[go_sem] theorem ty59 : tyT Tryd.prog 59 = .func := by kernel_rfl
@[go_sem] theorem zero59 : zeroT Tryd.prog 59 = some [.nilfn] := by kernel_rfl
@[go_sem] theorem lay60 : layT Tryd.prog 60 = some ⟨false, 1⟩ := by kernel_rfl
@[go_sem] theorem ty60 : tyT Tryd.prog 60 = .slice 1 16 false := by kernel_rfl
@[go_sem] theorem zero60 : zeroT Tryd.prog 60 = some [.nil] := by kernel_rfl
@[go_sem] theorem zel60 : zeroElemT Tryd.prog 60 = some [.str ⟨#[]⟩] := by kernel_rfl
@[go_sem] theorem lay61 : layT Tryd.prog 61 = some ⟨false, 1⟩ := by kernel_rfl
@[go_sem] theorem ty61 : tyT Tryd.prog 61 = .func := by kernel_rfl
@[go_sem] theorem zero61 : zeroT Tryd.prog 61 = some [.nilfn] := by kernel_rfl
@[go_sem] theorem lay62 : layT Tryd.prog 62 = some ⟨true, 3⟩ := by kernel_rfl
@[go_sem] theorem ty62 : tyT Tryd.prog 62 = .struct [⟨0, 1, false⟩, ⟨1, 1, false⟩, ⟨2, 1, false⟩] := by kernel_rfl
@[go_sem] theorem zero62 : zeroT Tryd.prog 62 = some [.int .i64 0, .int .i64 0, .int .i64 0] := by kernel_rfl
@[go_sem] theorem lvs62 : leavesT Tryd.prog 9 62 = some [.int, .int, .int] := by kernel_rfl
@[go_sem] theorem isAgg62 : isAggT Tryd.prog 62 = true := by kernel_rfl
@[go_sem] theorem lay63 : layT Tryd.prog 63 = some ⟨true, 3⟩ := by kernel_rfl
@[go_sem] theorem ty63 : tyT Tryd.prog 63 = .struct [⟨0, 1, false⟩, ⟨1, 1, false⟩, ⟨2, 1, false⟩] := by kernel_rfl
@[go_sem] theorem zero63 : zeroT Tryd.prog 63 = some [.int .i64 0, .int .i64 0, .int .i64 0] := by kernel_rfl
@[go_sem] theorem lvs63 : leavesT Tryd.prog 9 63 = some [.int, .int, .int] := by kernel_rfl
@[go_sem] theorem isAgg63 : isAggT Tryd.prog 63 = true := by kernel_rfl
@[go_sem] theorem lay64 : layT Tryd.prog 64 = some ⟨true, 5⟩ := by kernel_rfl
@[go_sem] theorem ty64 : tyT Tryd.prog 64 = .arr 5 1 false := by kernel_rfl
@[go_sem] theorem zero64 : zeroT Tryd.prog 64 = some [.int .i64 0, .int .i64 0, .int .i64 0, .int .i64 0, .int .i64 0] := by kernel_rfl
@[go_sem] theorem lvs64 : leavesT Tryd.prog 9 64 = some [.int, .int, .int, .int, .int] := by kernel_rfl
@[go_sem] theorem isAgg64 : isAggT Tryd.prog 64 = true := by kernel_rfl
@[go_sem] theorem lay65 : layT Tryd.prog 65 = some ⟨true, 8⟩ := by kernel_rfl
@[go_sem] theorem ty65 : tyT Tryd.prog 65 = .struct [⟨0, 1, false⟩, ⟨1, 1, false⟩, ⟨2, 5, true⟩, ⟨7, 1, false⟩] := by kernel_rfl
@[go_sem] theorem zero65 : zeroT Tryd.prog 65 = some [.int .i64 0, .int .i64 0, .int .i64 0, .int .i64 0, .int .i64 0, .int .i64 0, .int .i64 0, .int .i64 0] := by kernel_rfl
@[go_sem] theorem lvs65 : leavesT Tryd.prog 9 65 = some [.int, .int, .int, .int, .int, .int, .int, .int] := by kernel_rfl
@[go_sem] theorem isAgg65 : isAggT Tryd.prog 65 = true := by kernel_rfl
@[go_sem] theorem lay66 : layT Tryd.prog 66 = some ⟨true, 8⟩ := by kernel_rfl
@[go_sem] theorem ty66 : tyT Tryd.prog 66 = .struct [⟨0, 1, false⟩, ⟨1, 1, false⟩, ⟨2, 5, true⟩, ⟨7, 1, false⟩] := by kernel_rfl
@[go_sem] theorem zero66 : zeroT Tryd.prog 66 = some [.int .i64 0, .int .i64 0, .int .i64 0, .int .i64 0, .int .i64 0, .int .i64 0, .int .i64 0, .int .i64 0] := by kernel_rfl
@[go_sem] theorem lvs66 : leavesT Tryd.prog 9 66 = some [.int, .int, .int, .int, .int, .int, .int, .int] := by kernel_rfl
@[go_sem] theorem isAgg66 : isAggT Tryd.prog 66 = true := by kernel_rfl
@[go_sem] theorem lay67 : layT Tryd.prog 67 = some ⟨false, 1⟩ := by kernel_rfl
@[go_sem] theorem ty67 : tyT Tryd.prog 67 = .func := by kernel_rfl
@[go_sem] theorem zero67 : zeroT Tryd.prog 67 = some [.nilfn] := by kernel_rfl
@[go_sem] theorem lay68 : layT Tryd.prog 68 = some ⟨false, 1⟩ := by kernel_rfl
@[go_sem] theorem ty68 : tyT Tryd.prog 68 = .func := by kernel_rfl
@[go_sem] theorem zero68 : zeroT Tryd.prog 68 = some [.nilfn] := by kernel_rfl
@[go_sem] theorem lay69 : layT Tryd.prog 69 = some ⟨false, 1⟩ := by kernel_rfl
@[go_sem] theorem ty69 : tyT Tryd.prog 69 = .func := by kernel_rfl
@[go_sem] theorem zero69 : zeroT Tryd.prog 69 = some [.nilfn] := by kernel_rfl
@[go_sem] theorem lay70 : layT Tryd.prog 70 = some ⟨false, 1⟩ := by kernel_rfl
@[go_sem] theorem ty70 : tyT Tryd.prog 70 = .func := by kernel_rfl
@[go_sem] theorem zero70 : zeroT Tryd.prog 70 = some [.nilfn] := by kernel_rfl
@[go_sem] theorem lay71 : layT Tryd.prog 71 = some ⟨false, 1⟩ := by kernel_rfl
@[go_sem] theorem ty71 : tyT Tryd.prog 71 = .func := by kernel_rfl
@[go_sem] theorem zero71 : zeroT Tryd.prog 71 = some [.nilfn] := by kernel_rfl
@[go_sem] theorem lay75 : layT Tryd.prog 75 = some ⟨false, 1⟩ := by kernel_rfl
@[go_sem] theorem ty75 : tyT Tryd.prog 75 = .func := by kernel_rfl
@[go_sem] theorem zero75 : zeroT Tryd.prog 75 = some [.nilfn] := by kernel_rfl
@[go_sem] theorem lay76 : layT Tryd.prog 76 = some ⟨false, 1⟩ := by kernel_rfl
@[go_sem] theorem ty76 : tyT Tryd.prog 76 = .func := by kernel_rfl
@[go_sem] theorem zero76 : zeroT Tryd.prog 76 = some [.nilfn] := by kernel_rfl
@[go_sem] theorem lay77 : layT Tryd.prog 77 = some ⟨false, 1⟩ := by kernel_rfl
@[go_sem] theorem ty77 : tyT Tryd.prog 77 = .ptr := by kernel_rfl
@[go_sem] theorem zero77 : zeroT Tryd.prog 77 = some [.nilp] := by kernel_rfl
@[go_sem] theorem lay78 : layT Tryd.prog 78 = some ⟨false, 1⟩ := by kernel_rfl
@[go_sem] theorem ty78 : tyT Tryd.prog 78 = .slice 1 1 false := by kernel_rfl
@[go_sem] theorem zero78 : zeroT Tryd.prog 78 = some [.nil] := by kernel_rfl
@[go_sem] theorem zel78 : zeroElemT Tryd.prog 78 = some [.int .u8 0] := by kernel_rfl
@[go_sem] theorem lay79 : layT Tryd.prog 79 = some ⟨true, 2⟩ := by kernel_rfl
@[go_sem] theorem ty79 : tyT Tryd.prog 79 = .struct [⟨0, 1, false⟩, ⟨1, 1, false⟩] := by kernel_rfl
@[go_sem] theorem zero79 : zeroT Tryd.prog 79 = some [.nilp, .nil] := by kernel_rfl
@[go_sem] theorem lay80 : layT Tryd.prog 80 = some ⟨true, 2⟩ := by kernel_rfl
@[go_sem] theorem ty80 : tyT Tryd.prog 80 = .struct [⟨0, 1, false⟩, ⟨1, 1, false⟩] := by kernel_rfl
@[go_sem] theorem zero80 : zeroT Tryd.prog 80 = some [.nilp, .nil] := by kernel_rfl
@[go_sem] theorem lay81 : layT Tryd.prog 81 = some ⟨false, 1⟩ := by kernel_rfl
@[go_sem] theorem ty81 : tyT Tryd.prog 81 = .func := by kernel_rfl
@[go_sem] theorem zero81 : zeroT Tryd.prog 81 = some [.nilfn] := by kernel_rfl
@[go_sem] theorem lay82 : layT Tryd.prog 82 = some ⟨false, 1⟩ := by kernel_rfl
@[go_sem] theorem ty82 : tyT Tryd.prog 82 = .func := by kernel_rfl
@[go_sem] theorem zero82 : zeroT Tryd.prog 82 = some [.nilfn] := by kernel_rfl
@[go_sem] theorem lay83 : layT Tryd.prog 83 = some ⟨false, 1⟩ := by kernel_rfl
@[go_sem] theorem ty83 : tyT Tryd.prog 83 = .ptr := by kernel_rfl
@[go_sem] theorem zero83 : zeroT Tryd.prog 83 = some [.nilp] := by kernel_rfl
@[go_sem] theorem lay84 : layT Tryd.prog 84 = some ⟨false, 1⟩ := by kernel_rfl
@[go_sem] theorem ty84 : tyT Tryd.prog 84 = .func := by kernel_rfl
@[go_sem] theorem zero84 : zeroT Tryd.prog 84 = some [.nilfn] := by kernel_rfl
@[go_sem] theorem lay85 : layT Tryd.prog 85 = some ⟨false, 1⟩ := by kernel_rfl
@[go_sem] theorem ty85 : tyT Tryd.prog 85 = .func := by kernel_rfl
@[go_sem] theorem zero85 : zeroT Tryd.prog 85 = some [.nilfn] := by kernel_rfl
@[go_sem] theorem lay86 : layT Tryd.prog 86 = some ⟨false, 1⟩ := by kernel_rfl
@[go_sem] theorem ty86 : tyT Tryd.prog 86 = .func := by kernel_rfl
@[go_sem] theorem zero86 : zeroT Tryd.prog 86 = some [.nilfn] := by kernel_rfl
@[go_sem] theorem lay87 : layT Tryd.prog 87 = some ⟨false, 1⟩ := by kernel_rfl
@[go_sem] theorem ty87 : tyT Tryd.prog 87 = .func := by kernel_rfl
@[go_sem] theorem zero87 : zeroT Tryd.prog 87 = some [.nilfn] := by kernel_rfl
@[go_sem] theorem lay88 : layT Tryd.prog 88 = some ⟨false, 1⟩ := by kernel_rfl
@[go_sem] theorem ty88 : tyT Tryd.prog 88 = .func := by kernel_rfl
@[go_sem] theorem zero88 : zeroT Tryd.prog 88 = some [.nilfn] := by kernel_rfl
@[go_sem] theorem lay89 : layT Tryd.prog 89 = some ⟨true, 24⟩ := by kernel_rfl
@[go_sem] theorem ty89 : tyT Tryd.prog 89 = .arr 24 1 false := by kernel_rfl
@[go_sem] theorem zero89 : zeroT Tryd.prog 89 = some [.int .u8 0, .int .u8 0, .int .u8 0, .int .u8 0, .int .u8 0, .int .u8 0, .int .u8 0, .int .u8 0, .int .u8 0, .int .u8 0, .int .u8 0, .int .u8 0, .int .u8 0, .int .u8 0, .int .u8 0, .int .u8 0, .int .u8 0, .int .u8 0, .int .u8 0, .int .u8 0, .int .u8 0, .int .u8 0, .int .u8 0, .int .u8 0] := by kernel_rfl
@[go_sem] theorem lvs89 : leavesT Tryd.prog 9 89 = some [.int, .int, .int, .int, .int, .int, .int, .int, .int, .int, .int, .int, .int, .int, .int, .int, .int, .int, .int, .int, .int, .int, .int, .int] := by kernel_rfl
@[go_sem] theorem isAgg89 : isAggT Tryd.prog 89 = true := by kernel_rfl
@[go_sem] theorem lay90 : layT Tryd.prog 90 = some ⟨false, 1⟩ := by kernel_rfl
@[go_sem] theorem ty90 : tyT Tryd.prog 90 = .int .u64 := by kernel_rfl
@[go_sem] theorem zero90 : zeroT Tryd.prog 90 = some [.int .u64 0] := by kernel_rfl
@[go_sem] theorem lay91 : layT Tryd.prog 91 = some ⟨false, 1⟩ := by kernel_rfl
@[go_sem] theorem ty91 : tyT Tryd.prog 91 = .func := by kernel_rfl
@[go_sem] theorem zero91 : zeroT Tryd.prog 91 = some [.nilfn] := by kernel_rfl
@[go_sem] theorem lay92 : layT Tryd.prog 92 = some ⟨false, 1⟩ := by kernel_rfl
@[go_sem] theorem ty92 : tyT Tryd.prog 92 = .func := by kernel_rfl
@[go_sem] theorem zero92 : zeroT Tryd.prog 92 = some [.nilfn] := by kernel_rfl
@[go_sem] theorem lay94 : layT Tryd.prog 94 = some ⟨false, 1⟩ := by kernel_rfl
@[go_sem] theorem ty94 : tyT Tryd.prog 94 = .func := by kernel_rfl
@[go_sem] theorem zero94 : zeroT Tryd.prog 94 = some [.nilfn] := by kernel_rfl
@[go_sem] theorem lay95 : layT Tryd.prog 95 = some ⟨false, 1⟩ := by kernel_rfl
@[go_sem] theorem ty95 : tyT Tryd.prog 95 = .ptr := by kernel_rfl
@[go_sem] theorem zero95 : zeroT Tryd.prog 95 = some [.nilp] := by kernel_rfl
@[go_sem] theorem lay96 : layT Tryd.prog 96 = some ⟨false, 1⟩ := by kernel_rfl
@[go_sem] theorem ty96 : tyT Tryd.prog 96 = .func := by kernel_rfl
@[go_sem] theorem zero96 : zeroT Tryd.prog 96 = some [.nilfn] := by kernel_rfl
@[go_sem] theorem lay98 : layT Tryd.prog 98 = some ⟨false, 1⟩ := by kernel_rfl
@[go_sem] theorem ty98 : tyT Tryd.prog 98 = .func := by kernel_rfl
@[go_sem] theorem zero98 : zeroT Tryd.prog 98 = some [.nilfn] := by kernel_rfl
@[go_sem] theorem lay99 : layT Tryd.prog 99 = some ⟨false, 1⟩ := by kernel_rfl
@[go_sem] theorem ty99 : tyT Tryd.prog 99 = .func := by kernel_rfl
@[go_sem] theorem zero99 : zeroT Tryd.prog 99 = some [.nilfn] := by kernel_rfl
@[go_sem] theorem lay100 : layT Tryd.prog 100 = some ⟨false, 1⟩ := by kernel_rfl
@[go_sem] theorem ty100 : tyT Tryd.prog 100 = .int .i64 := by kernel_rfl
@[go_sem] theorem zero100 : zeroT Tryd.prog 100 = some [.int .i64 0] := by kernel_rfl
@[go_sem] theorem lay102 : layT Tryd.prog 102 = some ⟨false, 1⟩ := by kernel_rfl
@[go_sem] theorem ty102 : tyT Tryd.prog 102 = .func := by kernel_rfl
@[go_sem] theorem zero102 : zeroT Tryd.prog 102 = some [.nilfn] := by kernel_rfl
@[go_sem] theorem lay103 : layT Tryd.prog 103 = some ⟨false, 1⟩ := by kernel_rfl
@[go_sem] theorem ty103 : tyT Tryd.prog 103 = .ptr := by kernel_rfl
@[go_sem] theorem zero103 : zeroT Tryd.prog 103 = some [.nilp] := by kernel_rfl
@[go_sem] theorem lay104 : layT Tryd.prog 104 = some ⟨false, 1⟩ := by kernel_rfl
@[go_sem] theorem ty104 : tyT Tryd.prog 104 = .func := by kernel_rfl
@[go_sem] theorem zero104 : zeroT Tryd.prog 104 = some [.nilfn] := by kernel_rfl
@[go_sem] theorem lay105 : layT Tryd.prog 105 = some ⟨false, 1⟩ := by kernel_rfl
@[go_sem] theorem ty105 : tyT Tryd.prog 105 = .func := by kernel_rfl
@[go_sem] theorem zero105 : zeroT Tryd.prog 105 = some [.nilfn] := by kernel_rfl
@[go_sem] theorem lay106 : layT Tryd.prog 106 = some ⟨false, 1⟩ := by kernel_rfl
@[go_sem] theorem ty106 : tyT Tryd.prog 106 = .func := by kernel_rfl
@[go_sem] theorem zero106 : zeroT Tryd.prog 106 = some [.nilfn] := by kernel_rfl
@[go_sem] theorem lay107 : layT Tryd.prog 107 = some ⟨false, 1⟩ := by kernel_rfl
@[go_sem] theorem ty107 : tyT Tryd.prog 107 = .func := by kernel_rfl
@[go_sem] theorem zero107 : zeroT Tryd.prog 107 = some [.nilfn] := by kernel_rfl
@[go_sem] theorem lay108 : layT Tryd.prog 108 = some ⟨true, 20⟩ := by kernel_rfl
@[go_sem] theorem ty108 : tyT Tryd.prog 108 = .arr 20 1 false := by kernel_rfl
@[go_sem] theorem zero108 : zeroT Tryd.prog 108 = some [.int .u64 0, .int .u64 0, .int .u64 0, .int .u64 0, .int .u64 0, .int .u64 0, .int .u64 0, .int .u64 0, .int .u64 0, .int .u64 0, .int .u64 0, .int .u64 0, .int .u64 0, .int .u64 0, .int .u64 0, .int .u64 0, .int .u64 0, .int .u64 0, .int .u64 0, .int .u64 0] := by kernel_rfl
@[go_sem] theorem lvs108 : leavesT Tryd.prog 9 108 = some [.int, .int, .int, .int, .int, .int, .int, .int, .int, .int, .int, .int, .int, .int, .int, .int, .int, .int, .int, .int] := by kernel_rfl
@[go_sem] theorem isAgg108 : isAggT Tryd.prog 108 = true := by kernel_rfl
@[go_sem] theorem lay109 : layT Tryd.prog 109 = some ⟨false, 1⟩ := by kernel_rfl
@[go_sem] theorem ty109 : tyT Tryd.prog 109 = .int .u32 := by kernel_rfl
@[go_sem] theorem zero109 : zeroT Tryd.prog 109 = some [.int .u32 0] := by kernel_rfl
@[go_sem] theorem lay110 : layT Tryd.prog 110 = some ⟨true, 65⟩ := by kernel_rfl
@[go_sem] theorem ty110 : tyT Tryd.prog 110 = .arr 65 1 false := by kernel_rfl
@[go_sem] theorem zero110 : zeroT Tryd.prog 110 = some [.int .u8 0, .int .u8 0, .int .u8 0, .int .u8 0, .int .u8 0, .int .u8 0, .int .u8 0, .int .u8 0, .int .u8 0, .int .u8 0, .int .u8 0, .int .u8 0, .int .u8 0, .int .u8 0, .int .u8 0, .int .u8 0, .int .u8 0, .int .u8 0, .int .u8 0, .int .u8 0, .int .u8 0, .int .u8 0, .int .u8 0, .int .u8 0, .int .u8 0, .int .u8 0, .int .u8 0, .int .u8 0, .int .u8 0, .int .u8 0, .int .u8 0, .int .u8 0, .int .u8 0, .int .u8 0, .int .u8 0, .int .u8 0, .int .u8 0, .int .u8 0, .int .u8 0, .int .u8 0, .int .u8 0, .int .u8 0, .int .u8 0, .int .u8 0, .int .u8 0, .int .u8 0, .int .u8 0, .int .u8 0, .int .u8 0, .int .u8 0, .int .u8 0, .int .u8 0, .int .u8 0, .int .u8 0, .int .u8 0, .int .u8 0, .int .u8 0, .int .u8 0, .int .u8 0, .int .u8 0, .int .u8 0, .int .u8 0, .int .u8 0, .int .u8 0, .int .u8 0] := by kernel_rfl
@[go_sem] theorem lay111 : layT Tryd.prog 111 = some ⟨false, 1⟩ := by kernel_rfl
@[go_sem] theorem ty111 : tyT Tryd.prog 111 = .func := by kernel_rfl
@[go_sem] theorem zero111 : zeroT Tryd.prog 111 = some [.nilfn] := by kernel_rfl
@[go_sem] theorem lay112 : layT Tryd.prog 112 = some ⟨false, 1⟩ := by kernel_rfl
@[go_sem] theorem ty112 : tyT Tryd.prog 112 = .int .u64 := by kernel_rfl
@[go_sem] theorem zero112 : zeroT Tryd.prog 112 = some [.int .u64 0] := by kernel_rfl
@[go_sem] theorem lay113 : layT Tryd.prog 113 = some ⟨false, 1⟩ := by kernel_rfl
@[go_sem] theorem ty113 : tyT Tryd.prog 113 = .func := by kernel_rfl
@[go_sem] theorem zero113 : zeroT Tryd.prog 113 = some [.nilfn] := by kernel_rfl
@[go_sem] theorem lay115 : layT Tryd.prog 115 = some ⟨false, 1⟩ := by kernel_rfl
@[go_sem] theorem ty115 : tyT Tryd.prog 115 = .func := by kernel_rfl
@[go_sem] theorem zero115 : zeroT Tryd.prog 115 = some [.nilfn] := by kernel_rfl
@[go_sem] theorem lay116 : layT Tryd.prog 116 = some ⟨false, 1⟩ := by kernel_rfl
@[go_sem] theorem ty116 : tyT Tryd.prog 116 = .func := by kernel_rfl
@[go_sem] theorem zero116 : zeroT Tryd.prog 116 = some [.nilfn] := by kernel_rfl
@[go_sem] theorem lay118 : layT Tryd.prog 118 = some ⟨false, 1⟩ := by kernel_rfl
@[go_sem] theorem ty118 : tyT Tryd.prog 118 = .func := by kernel_rfl
@[go_sem] theorem zero118 : zeroT Tryd.prog 118 = some [.nilfn] := by kernel_rfl
@[go_sem] theorem lay119 : layT Tryd.prog 119 = some ⟨false, 1⟩ := by kernel_rfl
@[go_sem] theorem ty119 : tyT Tryd.prog 119 = .func := by kernel_rfl
@[go_sem] theorem zero119 : zeroT Tryd.prog 119 = some [.nilfn] := by kernel_rfl
@[go_sem] theorem lay120 : layT Tryd.prog 120 = some ⟨true, 3⟩ := by kernel_rfl
@[go_sem] theorem ty120 : tyT Tryd.prog 120 = .struct [⟨0, 1, false⟩, ⟨1, 1, false⟩, ⟨2, 1, false⟩] := by kernel_rfl
@[go_sem] theorem zero120 : zeroT Tryd.prog 120 = some [.str ⟨#[]⟩, .str ⟨#[]⟩, .nilif] := by kernel_rfl
@[go_sem] theorem lay121 : layT Tryd.prog 121 = some ⟨true, 3⟩ := by kernel_rfl
@[go_sem] theorem ty121 : tyT Tryd.prog 121 = .struct [⟨0, 1, false⟩, ⟨1, 1, false⟩, ⟨2, 1, false⟩] := by kernel_rfl
@[go_sem] theorem zero121 : zeroT Tryd.prog 121 = some [.str ⟨#[]⟩, .str ⟨#[]⟩, .nilif] := by kernel_rfl
@[go_sem] theorem lay122 : layT Tryd.prog 122 = some ⟨false, 1⟩ := by kernel_rfl
@[go_sem] theorem ty122 : tyT Tryd.prog 122 = .func := by kernel_rfl
@[go_sem] theorem zero122 : zeroT Tryd.prog 122 = some [.nilfn] := by kernel_rfl
@[go_sem] theorem lay123 : layT Tryd.prog 123 = some ⟨false, 1⟩ := by kernel_rfl
@[go_sem] theorem ty123 : tyT Tryd.prog 123 = .func := by kernel_rfl
@[go_sem] theorem zero123 : zeroT Tryd.prog 123 = some [.nilfn] := by kernel_rfl
@[go_sem] theorem lay125 : layT Tryd.prog 125 = some ⟨true, 2⟩ := by kernel_rfl
@[go_sem] theorem ty125 : tyT Tryd.prog 125 = .struct [⟨0, 1, false⟩, ⟨1, 1, false⟩] := by kernel_rfl
@[go_sem] theorem zero125 : zeroT Tryd.prog 125 = some [.int .u8 0, .int .u8 0] := by kernel_rfl
@[go_sem] theorem lvs125 : leavesT Tryd.prog 9 125 = some [.int, .int] := by kernel_rfl
@[go_sem] theorem isAgg125 : isAggT Tryd.prog 125 = true := by kernel_rfl
@[go_sem] theorem lay126 : layT Tryd.prog 126 = some ⟨true, 2⟩ := by kernel_rfl
@[go_sem] theorem ty126 : tyT Tryd.prog 126 = .struct [⟨0, 1, false⟩, ⟨1, 1, false⟩] := by kernel_rfl
@[go_sem] theorem zero126 : zeroT Tryd.prog 126 = some [.int .u8 0, .int .u8 0] := by kernel_rfl
@[go_sem] theorem lvs126 : leavesT Tryd.prog 9 126 = some [.int, .int] := by kernel_rfl
@[go_sem] theorem isAgg126 : isAggT Tryd.prog 126 = true := by kernel_rfl
@[go_sem] theorem lay127 : layT Tryd.prog 127 = some ⟨true, 32⟩ := by kernel_rfl
@[go_sem] theorem ty127 : tyT Tryd.prog 127 = .arr 16 2 true := by kernel_rfl
@[go_sem] theorem zero127 : zeroT Tryd.prog 127 = some [.int .u8 0, .int .u8 0, .int .u8 0, .int .u8 0, .int .u8 0, .int .u8 0, .int .u8 0, .int .u8 0, .int .u8 0, .int .u8 0, .int .u8 0, .int .u8 0, .int .u8 0, .int .u8 0, .int .u8 0, .int .u8 0, .int .u8 0, .int .u8 0, .int .u8 0, .int .u8 0, .int .u8 0, .int .u8 0, .int .u8 0, .int .u8 0, .int .u8 0, .int .u8 0, .int .u8 0, .int .u8 0, .int .u8 0, .int .u8 0, .int .u8 0, .int .u8 0] := by kernel_rfl
@[go_sem] theorem lvs127 : leavesT Tryd.prog 9 127 = some [.int, .int, .int, .int, .int, .int, .int, .int, .int, .int, .int, .int, .int, .int, .int, .int, .int, .int, .int, .int, .int, .int, .int, .int, .int, .int, .int, .int, .int, .int, .int, .int] := by kernel_rfl
@[go_sem] theorem isAgg127 : isAggT Tryd.prog 127 = true := by kernel_rfl
@[go_sem] theorem lay129 : layT Tryd.prog 129 = some ⟨false, 1⟩ := by kernel_rfl
@[go_sem] theorem ty129 : tyT Tryd.prog 129 = .func := by kernel_rfl
@[go_sem] theorem zero129 : zeroT Tryd.prog 129 = some [.nilfn] := by kernel_rfl
@[go_sem] theorem lay130 : layT Tryd.prog 130 = some ⟨false, 1⟩ := by kernel_rfl
@[go_sem] theorem ty130 : tyT Tryd.prog 130 = .func := by kernel_rfl
@[go_sem] theorem zero130 : zeroT Tryd.prog 130 = some [.nilfn] := by kernel_rfl
@[go_sem] theorem lay131 : layT Tryd.prog 131 = some ⟨false, 1⟩ := by kernel_rfl
@[go_sem] theorem ty131 : tyT Tryd.prog 131 = .ptr := by kernel_rfl
@[go_sem] theorem zero131 : zeroT Tryd.prog 131 = some [.nilp] := by kernel_rfl
@[go_sem] theorem lay132 : layT Tryd.prog 132 = some ⟨true, 1⟩ := by kernel_rfl
@[go_sem] theorem ty132 : tyT Tryd.prog 132 = .struct [⟨0, 1, false⟩] := by kernel_rfl
@[go_sem] theorem zero132 : zeroT Tryd.prog 132 = some [.str ⟨#[]⟩] := by kernel_rfl
@[go_sem] theorem lvs132 : leavesT Tryd.prog 9 132 = some [.str] := by kernel_rfl
@[go_sem] theorem isAgg132 : isAggT Tryd.prog 132 = true := by kernel_rfl
@[go_sem] theorem lay133 : layT Tryd.prog 133 = some ⟨true, 1⟩ := by kernel_rfl
@[go_sem] theorem ty133 : tyT Tryd.prog 133 = .struct [⟨0, 1, false⟩] := by kernel_rfl
@[go_sem] theorem zero133 : zeroT Tryd.prog 133 = some [.str ⟨#[]⟩] := by kernel_rfl
@[go_sem] theorem lvs133 : leavesT Tryd.prog 9 133 = some [.str] := by kernel_rfl
@[go_sem] theorem isAgg133 : isAggT Tryd.prog 133 = true := by kernel_rfl
@[go_sem] theorem lay134 : layT Tryd.prog 134 = some ⟨true, 32⟩ := by kernel_rfl
@[go_sem] theorem ty134 : tyT Tryd.prog 134 = .arr 32 1 false := by kernel_rfl
@[go_sem] theorem zero134 : zeroT Tryd.prog 134 = some [.int .u8 0, .int .u8 0, .int .u8 0, .int .u8 0, .int .u8 0, .int .u8 0, .int .u8 0, .int .u8 0, .int .u8 0, .int .u8 0, .int .u8 0, .int .u8 0, .int .u8 0, .int .u8 0, .int .u8 0, .int .u8 0, .int .u8 0, .int .u8 0, .int .u8 0, .int .u8 0, .int .u8 0, .int .u8 0, .int .u8 0, .int .u8 0, .int .u8 0, .int .u8 0, .int .u8 0, .int .u8 0, .int .u8 0, .int .u8 0, .int .u8 0, .int .u8 0] := by kernel_rfl
@[go_sem] theorem lvs134 : leavesT Tryd.prog 9 134 = some [.int, .int, .int, .int, .int, .int, .int, .int, .int, .int, .int, .int, .int, .int, .int, .int, .int, .int, .int, .int, .int, .int, .int, .int, .int, .int, .int, .int, .int, .int, .int, .int] := by kernel_rfl
@[go_sem] theorem isAgg134 : isAggT Tryd.prog 134 = true := by kernel_rfl
@[go_sem] theorem lay135 : layT Tryd.prog 135 = some ⟨true, 64⟩ := by kernel_rfl
@[go_sem] theorem ty135 : tyT Tryd.prog 135 = .arr 64 1 false := by kernel_rfl
@[go_sem] theorem zero135 : zeroT Tryd.prog 135 = some [.int .u8 0, .int .u8 0, .int .u8 0, .int .u8 0, .int .u8 0, .int .u8 0, .int .u8 0, .int .u8 0, .int .u8 0, .int .u8 0, .int .u8 0, .int .u8 0, .int .u8 0, .int .u8 0, .int .u8 0, .int .u8 0, .int .u8 0, .int .u8 0, .int .u8 0, .int .u8 0, .int .u8 0, .int .u8 0, .int .u8 0, .int .u8 0, .int .u8 0, .int .u8 0, .int .u8 0, .int .u8 0, .int .u8 0, .int .u8 0, .int .u8 0, .int .u8 0, .int .u8 0, .int .u8 0, .int .u8 0, .int .u8 0, .int .u8 0, .int .u8 0, .int .u8 0, .int .u8 0, .int .u8 0, .int .u8 0, .int .u8 0, .int .u8 0, .int .u8 0, .int .u8 0, .int .u8 0, .int .u8 0, .int .u8 0, .int .u8 0, .int .u8 0, .int .u8 0, .int .u8 0, .int .u8 0, .int .u8 0, .int .u8 0, .int .u8 0, .int .u8 0, .int .u8 0, .int .u8 0, .int .u8 0, .int .u8 0, .int .u8 0, .int .u8 0] := by kernel_rfl
@[go_sem] theorem lay136 : layT Tryd.prog 136 = some ⟨true, 4⟩ := by kernel_rfl
@[go_sem] theorem ty136 : tyT Tryd.prog 136 = .struct [⟨0, 1, false⟩, ⟨1, 1, false⟩, ⟨2, 1, false⟩, ⟨3, 1, false⟩] := by kernel_rfl
@[go_sem] theorem zero136 : zeroT Tryd.prog 136 = some [.nilp, .nilp, .nilp, .str ⟨#[]⟩] := by kernel_rfl
@[go_sem] theorem lay137 : layT Tryd.prog 137 = some ⟨true, 4⟩ := by kernel_rfl
@[go_sem] theorem ty137 : tyT Tryd.prog 137 = .struct [⟨0, 1, false⟩, ⟨1, 1, false⟩, ⟨2, 1, false⟩, ⟨3, 1, false⟩] := by kernel_rfl
@[go_sem] theorem zero137 : zeroT Tryd.prog 137 = some [.nilp, .nilp, .nilp, .str ⟨#[]⟩] := by kernel_rfl
@[go_sem] theorem lay138 : layT Tryd.prog 138 = some ⟨true, 0⟩ := by kernel_rfl
@[go_sem] theorem ty138 : tyT Tryd.prog 138 = .arr 0 1 false := by kernel_rfl
@[go_sem] theorem zero138 : zeroT Tryd.prog 138 = some [] := by kernel_rfl
@[go_sem] theorem lay139 : layT Tryd.prog 139 = some ⟨true, 0⟩ := by kernel_rfl
@[go_sem] theorem lay140 : layT Tryd.prog 140 = some ⟨true, 0⟩ := by kernel_rfl
@[go_sem] theorem lay141 : layT Tryd.prog 141 = some ⟨false, 1⟩ := by kernel_rfl
@[go_sem] theorem ty141 : tyT Tryd.prog 141 = .func := by kernel_rfl
@[go_sem] theorem zero141 : zeroT Tryd.prog 141 = some [.nilfn] := by kernel_rfl
@[go_sem] theorem lay142 : layT Tryd.prog 142 = some ⟨false, 1⟩ := by kernel_rfl
@[go_sem] theorem ty142 : tyT Tryd.prog 142 = .int .u8 := by kernel_rfl
@[go_sem] theorem zero142 : zeroT Tryd.prog 142 = some [.int .u8 0] := by kernel_rfl
@[go_sem] theorem lay143 : layT Tryd.prog 143 = some ⟨false, 1⟩ := by kernel_rfl
@[go_sem] theorem ty143 : tyT Tryd.prog 143 = .int .u8 := by kernel_rfl
@[go_sem] theorem zero143 : zeroT Tryd.prog 143 = some [.int .u8 0] := by kernel_rfl
@[go_sem] theorem lay144 : layT Tryd.prog 144 = some ⟨false, 1⟩ := by kernel_rfl
@[go_sem] theorem ty144 : tyT Tryd.prog 144 = .func := by kernel_rfl
@[go_sem] theorem zero144 : zeroT Tryd.prog 144 = some [.nilfn] := by kernel_rfl
@[go_sem] theorem lay145 : layT Tryd.prog 145 = some ⟨false, 1⟩ := by kernel_rfl
@[go_sem] theorem ty145 : tyT Tryd.prog 145 = .int .i32 := by kernel_rfl
@[go_sem] theorem zero145 : zeroT Tryd.prog 145 = some [.int .i32 0] := by kernel_rfl
@[go_sem] theorem lay146 : layT Tryd.prog 146 = some ⟨false, 1⟩ := by kernel_rfl
@[go_sem] theorem ty146 : tyT Tryd.prog 146 = .int .i32 := by kernel_rfl
@[go_sem] theorem zero146 : zeroT Tryd.prog 146 = some [.int .i32 0] := by kernel_rfl
@[go_sem] theorem lay147 : layT Tryd.prog 147 = some ⟨true, 11⟩ := by kernel_rfl
@[go_sem] theorem ty147 : tyT Tryd.prog 147 = .struct [⟨0, 1, false⟩, ⟨1, 1, false⟩, ⟨2, 1, false⟩, ⟨3, 1, false⟩, ⟨4, 1, false⟩, ⟨5, 1, false⟩, ⟨6, 1, false⟩, ⟨7, 1, false⟩, ⟨8, 1, false⟩, ⟨9, 1, false⟩, ⟨10, 1, false⟩] := by kernel_rfl
@[go_sem] theorem zero147 : zeroT Tryd.prog 147 = some [.int .u64 0, .int .u64 0, .int .u32 0, .int .u8 0, .int .u8 0, .int .u8 0, .int .u8 0, .nilfn, .nilp, .int .i32 0, .int .i32 0] := by kernel_rfl
@[go_sem] theorem lay148 : layT Tryd.prog 148 = some ⟨true, 11⟩ := by kernel_rfl
@[go_sem] theorem ty148 : tyT Tryd.prog 148 = .struct [⟨0, 1, false⟩, ⟨1, 1, false⟩, ⟨2, 1, false⟩, ⟨3, 1, false⟩, ⟨4, 1, false⟩, ⟨5, 1, false⟩, ⟨6, 1, false⟩, ⟨7, 1, false⟩, ⟨8, 1, false⟩, ⟨9, 1, false⟩, ⟨10, 1, false⟩] := by kernel_rfl
@[go_sem] theorem zero148 : zeroT Tryd.prog 148 = some [.int .u64 0, .int .u64 0, .int .u32 0, .int .u8 0, .int .u8 0, .int .u8 0, .int .u8 0, .nilfn, .nilp, .int .i32 0, .int .i32 0] := by kernel_rfl
end Go.Proofs.YtdklpddmplflgaaDoor
