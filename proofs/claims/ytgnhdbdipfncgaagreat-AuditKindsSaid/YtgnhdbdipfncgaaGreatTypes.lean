/- What the types of this seat's translation say, a closed fact each. No theorem of a claim. -/
import Derived.Test.YtgnhdbdipfncgaaGreatRows
import Derived.Test.YtgnhdbdipfncgaaGreatAbcEval2
namespace Go.Proofs.YtgnhdbdipfncgaaGreat
open Go.Abs
theorem mixed:Tryz.prog.follows .mixedOrders=true:=by kernel_rfl
@[go_sem] theorem lay3:layT Tryz.prog 3=some ⟨false,1⟩:=by kernel_rfl
@[go_sem] theorem ty3:tyT Tryz.prog 3=.int .i64:=by kernel_rfl
@[go_sem] theorem lay4:layT Tryz.prog 4=some ⟨false,1⟩:=by kernel_rfl
@[go_sem] theorem ty4:tyT Tryz.prog 4=.bool:=by kernel_rfl
@[go_sem] theorem ty5:tyT Tryz.prog 5=.int .u8:=by kernel_rfl
@[go_sem] theorem lay9:layT Tryz.prog 9=some ⟨false,1⟩:=by kernel_rfl
@[go_sem] theorem ty9:tyT Tryz.prog 9=.str:=by kernel_rfl
@[go_sem] theorem ty22:tyT Tryz.prog 22=.slice 17 136 true:=by kernel_rfl
@[go_sem] theorem lay24:layT Tryz.prog 24=some ⟨true,3⟩:=by kernel_rfl
@[go_sem] theorem ty24:tyT Tryz.prog 24=.struct [⟨0,1,false⟩,⟨1,1,false⟩,⟨2,1,false⟩]:=by kernel_rfl
@[go_sem] theorem zero24:zeroT Tryz.prog 24=some [.int .i64 0,.int .i64 0,.int .i64 0]:=by kernel_rfl
@[go_sem] theorem lvs24:leavesT Tryz.prog 9 24=some [.int,.int,.int]:=by kernel_rfl
@[go_sem] theorem isAgg24:isAggT Tryz.prog 24=true:=by kernel_rfl
@[go_sem] theorem lay25:layT Tryz.prog 25=some ⟨false,1⟩:=by kernel_rfl
@[go_sem] theorem ty25:tyT Tryz.prog 25=.slice 3 24 true:=by kernel_rfl
@[go_sem] theorem zel25:zeroElemT Tryz.prog 25=some [.int .i64 0,.int .i64 0,.int .i64 0]:=by kernel_rfl
@[go_sem] theorem lay26:layT Tryz.prog 26=some ⟨false,1⟩:=by kernel_rfl
@[go_sem] theorem ty26:tyT Tryz.prog 26=.slice 12 96 true:=by kernel_rfl
@[go_sem] theorem zel26:zeroElemT Tryz.prog 26=some [.int .i64 0,.int .i64 0,.int .i64 0,.int .i64 0,.int .i64 0,.int .i64 0,.int .i64 0,.int .i64 0,.int .i64 0,.int .i64 0,.int .i64 0,.int .i64 0]:=by kernel_rfl
@[go_sem] theorem lay27:layT Tryz.prog 27=some ⟨false,1⟩:=by kernel_rfl
@[go_sem] theorem ty27:tyT Tryz.prog 27=.slice 4 32 true:=by kernel_rfl
@[go_sem] theorem zel27:zeroElemT Tryz.prog 27=some [.int .i64 0,.int .i64 0,.int .i64 0,.int .i64 0]:=by kernel_rfl
@[go_sem] theorem lay29:layT Tryz.prog 29=some ⟨true,3⟩:=by kernel_rfl
@[go_sem] theorem ty29:tyT Tryz.prog 29=.struct [⟨0,1,false⟩,⟨1,1,false⟩,⟨2,1,false⟩]:=by kernel_rfl
@[go_sem] theorem zero29:zeroT Tryz.prog 29=some [.nil,.nil,.nil]:=by kernel_rfl
@[go_sem] theorem lay30:layT Tryz.prog 30=some ⟨false,1⟩:=by kernel_rfl
@[go_sem] theorem ty30:tyT Tryz.prog 30=.slice 7 56 true:=by kernel_rfl
@[go_sem] theorem zel30:zeroElemT Tryz.prog 30=some [.int .i64 0,.int .i64 0,.int .i64 0,.int .i64 0,.int .i64 0,.int .i64 0,.bool false]:=by kernel_rfl
@[go_sem] theorem lay31:layT Tryz.prog 31=some ⟨false,1⟩:=by kernel_rfl
@[go_sem] theorem ty31:tyT Tryz.prog 31=.slice 4 32 true:=by kernel_rfl
@[go_sem] theorem zel31:zeroElemT Tryz.prog 31=some [.int .i64 0,.int .i64 0,.int .i64 0,.int .i64 0]:=by kernel_rfl
@[go_sem] theorem lay33:layT Tryz.prog 33=some ⟨true,3⟩:=by kernel_rfl
@[go_sem] theorem ty33:tyT Tryz.prog 33=.struct [⟨0,1,false⟩,⟨1,1,false⟩,⟨2,1,false⟩]:=by kernel_rfl
@[go_sem] theorem zero33:zeroT Tryz.prog 33=some [.int .i64 0,.nil,.nil]:=by kernel_rfl
@[go_sem] theorem lay34:layT Tryz.prog 34=some ⟨false,1⟩:=by kernel_rfl
@[go_sem] theorem ty34:tyT Tryz.prog 34=.slice 4 32 true:=by kernel_rfl
@[go_sem] theorem zel34:zeroElemT Tryz.prog 34=some [.int .i64 0,.int .i64 0,.int .i64 0,.int .i64 0]:=by kernel_rfl
@[go_sem] theorem lay36:layT Tryz.prog 36=some ⟨true,2⟩:=by kernel_rfl
@[go_sem] theorem ty36:tyT Tryz.prog 36=.struct [⟨0,1,false⟩,⟨1,1,false⟩]:=by kernel_rfl
@[go_sem] theorem zero36:zeroT Tryz.prog 36=some [.int .i64 0,.nil]:=by kernel_rfl
@[go_sem] theorem lay37:layT Tryz.prog 37=some ⟨false,1⟩:=by kernel_rfl
@[go_sem] theorem ty37:tyT Tryz.prog 37=.slice 3 24 true:=by kernel_rfl
@[go_sem] theorem zel37:zeroElemT Tryz.prog 37=some [.int .i64 0,.int .i64 0,.int .i64 0]:=by kernel_rfl
@[go_sem] theorem lay38:layT Tryz.prog 38=some ⟨false,1⟩:=by kernel_rfl
@[go_sem] theorem ty38:tyT Tryz.prog 38=.slice 4 32 true:=by kernel_rfl
@[go_sem] theorem zel38:zeroElemT Tryz.prog 38=some [.int .i64 0,.int .i64 0,.int .i64 0,.int .i64 0]:=by kernel_rfl
@[go_sem] theorem lay39:layT Tryz.prog 39=some ⟨false,1⟩:=by kernel_rfl
@[go_sem] theorem ty39:tyT Tryz.prog 39=.slice 5 40 true:=by kernel_rfl
@[go_sem] theorem zel39:zeroElemT Tryz.prog 39=some [.int .i64 0,.int .i64 0,.int .i64 0,.int .i64 0,.int .i64 0]:=by kernel_rfl
@[go_sem] theorem lay40:layT Tryz.prog 40=some ⟨false,1⟩:=by kernel_rfl
@[go_sem] theorem ty40:tyT Tryz.prog 40=.slice 7 88 true:=by kernel_rfl
@[go_sem] theorem zel40:zeroElemT Tryz.prog 40=some [.int .i64 0,.int .i64 0,.int .i64 0,.int .i64 0,.int .i64 0,.nil,.nil]:=by kernel_rfl
@[go_sem] theorem lay42:layT Tryz.prog 42=some ⟨true,15⟩:=by kernel_rfl
@[go_sem] theorem ty42:tyT Tryz.prog 42=.struct [⟨0,3,true⟩,⟨3,3,true⟩,⟨6,3,true⟩,⟨9,2,true⟩,⟨11,1,false⟩,⟨12,1,false⟩,⟨13,1,false⟩,⟨14,1,false⟩]:=by kernel_rfl
@[go_sem] theorem zero42:zeroT Tryz.prog 42=some [.int .i64 0,.int .i64 0,.int .i64 0,.nil,.nil,.nil,.int .i64 0,.nil,.nil,.int .i64 0,.nil,.nil,.nil,.nil,.nil]:=by kernel_rfl
@[go_sem] theorem ty43:tyT Tryz.prog 43=.arr 9 1 false:=by kernel_rfl
@[go_sem] theorem zero43:zeroT Tryz.prog 43=some [.int .i64 0,.int .i64 0,.int .i64 0,.int .i64 0,.int .i64 0,.int .i64 0,.int .i64 0,.int .i64 0,.int .i64 0]:=by kernel_rfl
@[go_sem] theorem lay44:layT Tryz.prog 44=some ⟨true,6⟩:=by kernel_rfl
@[go_sem] theorem ty44:tyT Tryz.prog 44=.arr 6 1 false:=by kernel_rfl
@[go_sem] theorem zero44:zeroT Tryz.prog 44=some [.int .i64 0,.int .i64 0,.int .i64 0,.int .i64 0,.int .i64 0,.int .i64 0]:=by kernel_rfl
@[go_sem] theorem lay46:layT Tryz.prog 46=some ⟨true,17⟩:=by kernel_rfl
@[go_sem] theorem ty46:tyT Tryz.prog 46=.struct [⟨0,1,false⟩,⟨1,1,false⟩,⟨2,1,false⟩,⟨3,1,false⟩,⟨4,1,false⟩,⟨5,1,false⟩,⟨6,1,false⟩,⟨7,1,false⟩,⟨8,1,false⟩,⟨9,1,false⟩,⟨10,1,false⟩,⟨11,6,true⟩]:=by kernel_rfl
@[go_sem] theorem zero46:zeroT Tryz.prog 46=some [.int .i64 0,.int .i64 0,.int .i64 0,.int .i64 0,.int .i64 0,.int .i64 0,.int .i64 0,.int .i64 0,.int .i64 0,.int .i64 0,.int .i64 0,.int .i64 0,.int .i64 0,.int .i64 0,.int .i64 0,.int .i64 0,.int .i64 0]:=by kernel_rfl
@[go_sem] theorem ty47:tyT Tryz.prog 47=.int .u64:=by kernel_rfl
@[go_sem] theorem lay48:layT Tryz.prog 48=some ⟨false,1⟩:=by kernel_rfl
@[go_sem] theorem lay49:layT Tryz.prog 49=some ⟨false,1⟩:=by kernel_rfl
@[go_sem] theorem ty49:tyT Tryz.prog 49=.slice 3 24 true:=by kernel_rfl
@[go_sem] theorem zel49:zeroElemT Tryz.prog 49=some [.int .i64 0,.int .i64 0,.int .i64 0]:=by kernel_rfl
@[go_sem] theorem lay50:layT Tryz.prog 50=some ⟨false,1⟩:=by kernel_rfl
@[go_sem] theorem ty50:tyT Tryz.prog 50=.slice 8 64 true:=by kernel_rfl
@[go_sem] theorem zel50:zeroElemT Tryz.prog 50=some [.int .i64 0,.int .i64 0,.int .i64 0,.int .i64 0,.int .i64 0,.int .i64 0,.int .i64 0,.int .i64 0]:=by kernel_rfl
@[go_sem] theorem lay52:layT Tryz.prog 52=some ⟨true,5⟩:=by kernel_rfl
@[go_sem] theorem ty52:tyT Tryz.prog 52=.struct [⟨0,1,false⟩,⟨1,1,false⟩,⟨2,1,false⟩,⟨3,1,false⟩,⟨4,1,false⟩]:=by kernel_rfl
@[go_sem] theorem zero52:zeroT Tryz.prog 52=some [.int .i64 0,.int .i64 0,.int .i64 0,.nil,.nil]:=by kernel_rfl
@[go_sem] theorem lay64:layT Tryz.prog 64=some ⟨true,3⟩:=by kernel_rfl
@[go_sem] theorem ty64:tyT Tryz.prog 64=.struct [⟨0,1,false⟩,⟨1,1,false⟩,⟨2,1,false⟩]:=by kernel_rfl
@[go_sem] theorem zero64:zeroT Tryz.prog 64=some [.int .i64 0,.int .i64 0,.int .i64 0]:=by kernel_rfl
@[go_sem] theorem lvs64:leavesT Tryz.prog 9 64=some [.int,.int,.int]:=by kernel_rfl
@[go_sem] theorem isAgg64:isAggT Tryz.prog 64=true:=by kernel_rfl
@[go_sem] theorem lay66:layT Tryz.prog 66=some ⟨true,4⟩:=by kernel_rfl
@[go_sem] theorem ty66:tyT Tryz.prog 66=.struct [⟨0,3,true⟩,⟨3,1,false⟩]:=by kernel_rfl
@[go_sem] theorem zero66:zeroT Tryz.prog 66=some [.int .i64 0,.int .i64 0,.int .i64 0,.int .i64 0]:=by kernel_rfl
@[go_sem] theorem lvs66:leavesT Tryz.prog 9 66=some [.int,.int,.int,.int]:=by kernel_rfl
@[go_sem] theorem isAgg66:isAggT Tryz.prog 66=true:=by kernel_rfl
@[go_sem] theorem lay68:layT Tryz.prog 68=some ⟨true,2⟩:=by kernel_rfl
@[go_sem] theorem ty68:tyT Tryz.prog 68=.struct [⟨0,1,false⟩,⟨1,1,false⟩]:=by kernel_rfl
@[go_sem] theorem zero68:zeroT Tryz.prog 68=some [.int .i64 0,.int .i64 0]:=by kernel_rfl
@[go_sem] theorem lay70:layT Tryz.prog 70=some ⟨true,4⟩:=by kernel_rfl
@[go_sem] theorem ty70:tyT Tryz.prog 70=.struct [⟨0,2,true⟩,⟨2,1,false⟩,⟨3,1,false⟩]:=by kernel_rfl
@[go_sem] theorem zero70:zeroT Tryz.prog 70=some [.int .i64 0,.int .i64 0,.int .i64 0,.int .i64 0]:=by kernel_rfl
@[go_sem] theorem lvs70:leavesT Tryz.prog 9 70=some [.int,.int,.int,.int]:=by kernel_rfl
@[go_sem] theorem isAgg70:isAggT Tryz.prog 70=true:=by kernel_rfl
@[go_sem] theorem ty71:tyT Tryz.prog 71=.slice 1 16 false:=by kernel_rfl
@[go_sem] theorem zel71:zeroElemT Tryz.prog 71=some [.str ⟨#[]⟩]:=by kernel_rfl
@[go_sem] theorem lay77:layT Tryz.prog 77=some ⟨false,1⟩:=by kernel_rfl
@[go_sem] theorem ty77:tyT Tryz.prog 77=.slice 1 8 false:=by kernel_rfl
@[go_sem] theorem zel77:zeroElemT Tryz.prog 77=some [.int .i64 0]:=by kernel_rfl
@[go_sem] theorem lay79:layT Tryz.prog 79=some ⟨true,12⟩:=by kernel_rfl
@[go_sem] theorem ty79:tyT Tryz.prog 79=.struct [⟨0,1,false⟩,⟨1,1,false⟩,⟨2,1,false⟩,⟨3,1,false⟩,⟨4,1,false⟩,⟨5,1,false⟩,⟨6,6,true⟩]:=by kernel_rfl
@[go_sem] theorem zero79:zeroT Tryz.prog 79=some [.int .i64 0,.int .i64 0,.int .i64 0,.int .i64 0,.int .i64 0,.int .i64 0,.int .i64 0,.int .i64 0,.int .i64 0,.int .i64 0,.int .i64 0,.int .i64 0]:=by kernel_rfl
@[go_sem] theorem lvs79:leavesT Tryz.prog 9 79=some [.int,.int,.int,.int,.int,.int,.int,.int,.int,.int,.int,.int]:=by kernel_rfl
@[go_sem] theorem isAgg79:isAggT Tryz.prog 79=true:=by kernel_rfl
@[go_sem] theorem lay86:layT Tryz.prog 86=some ⟨true,3⟩:=by kernel_rfl
@[go_sem] theorem ty86:tyT Tryz.prog 86=.struct [⟨0,1,false⟩,⟨1,1,false⟩,⟨2,1,false⟩]:=by kernel_rfl
@[go_sem] theorem zero86:zeroT Tryz.prog 86=some [.int .i64 0,.int .i64 0,.int .i64 0]:=by kernel_rfl
@[go_sem] theorem lvs86:leavesT Tryz.prog 9 86=some [.int,.int,.int]:=by kernel_rfl
@[go_sem] theorem isAgg86:isAggT Tryz.prog 86=true:=by kernel_rfl
@[go_sem] theorem lay91:layT Tryz.prog 91=some ⟨true,3⟩:=by kernel_rfl
@[go_sem] theorem ty91:tyT Tryz.prog 91=.struct [⟨0,1,false⟩,⟨1,1,false⟩,⟨2,1,false⟩]:=by kernel_rfl
@[go_sem] theorem zero91:zeroT Tryz.prog 91=some [.int .i64 0,.int .i64 0,.int .i64 0]:=by kernel_rfl
@[go_sem] theorem lvs91:leavesT Tryz.prog 9 91=some [.int,.int,.int]:=by kernel_rfl
@[go_sem] theorem isAgg91:isAggT Tryz.prog 91=true:=by kernel_rfl
@[go_sem] theorem lay98:layT Tryz.prog 98=some ⟨true,3⟩:=by kernel_rfl
@[go_sem] theorem ty98:tyT Tryz.prog 98=.struct [⟨0,1,false⟩,⟨1,1,false⟩,⟨2,1,false⟩]:=by kernel_rfl
@[go_sem] theorem zero98:zeroT Tryz.prog 98=some [.int .i64 0,.int .i64 0,.int .i64 0]:=by kernel_rfl
@[go_sem] theorem lvs98:leavesT Tryz.prog 9 98=some [.int,.int,.int]:=by kernel_rfl
@[go_sem] theorem isAgg98:isAggT Tryz.prog 98=true:=by kernel_rfl
@[go_sem] theorem lay100:layT Tryz.prog 100=some ⟨true,5⟩:=by kernel_rfl
@[go_sem] theorem ty100:tyT Tryz.prog 100=.struct [⟨0,2,true⟩,⟨2,1,false⟩,⟨3,1,false⟩,⟨4,1,false⟩]:=by kernel_rfl
@[go_sem] theorem zero100:zeroT Tryz.prog 100=some [.int .i64 0,.int .i64 0,.int .i64 0,.int .i64 0,.int .i64 0]:=by kernel_rfl
@[go_sem] theorem lvs100:leavesT Tryz.prog 9 100=some [.int,.int,.int,.int,.int]:=by kernel_rfl
@[go_sem] theorem isAgg100:isAggT Tryz.prog 100=true:=by kernel_rfl
@[go_sem] theorem lay106:layT Tryz.prog 106=some ⟨true,7⟩:=by kernel_rfl
@[go_sem] theorem ty106:tyT Tryz.prog 106=.struct [⟨0,1,false⟩,⟨1,1,false⟩,⟨2,5,true⟩]:=by kernel_rfl
@[go_sem] theorem zero106:zeroT Tryz.prog 106=some [.int .i64 0,.int .i64 0,.int .i64 0,.int .i64 0,.int .i64 0,.nil,.nil]:=by kernel_rfl
@[go_sem] theorem ty107:tyT Tryz.prog 107=.slice 2 16 true:=by kernel_rfl
@[go_sem] theorem zel107:zeroElemT Tryz.prog 107=some [.int .i64 0,.int .u64 0]:=by kernel_rfl
@[go_sem] theorem lay108:layT Tryz.prog 108=some ⟨false,1⟩:=by kernel_rfl
@[go_sem] theorem ty108:tyT Tryz.prog 108=.int .u64:=by kernel_rfl
@[go_sem] theorem lay110:layT Tryz.prog 110=some ⟨true,2⟩:=by kernel_rfl
@[go_sem] theorem ty110:tyT Tryz.prog 110=.struct [⟨0,1,false⟩,⟨1,1,false⟩]:=by kernel_rfl
@[go_sem] theorem zero110:zeroT Tryz.prog 110=some [.int .i64 0,.int .u64 0]:=by kernel_rfl
@[go_sem] theorem lvs110:leavesT Tryz.prog 9 110=some [.int,.int]:=by kernel_rfl
@[go_sem] theorem isAgg110:isAggT Tryz.prog 110=true:=by kernel_rfl
@[go_sem] theorem lay120:layT Tryz.prog 120=some ⟨true,2⟩:=by kernel_rfl
@[go_sem] theorem ty120:tyT Tryz.prog 120=.struct [⟨0,1,false⟩,⟨1,1,false⟩]:=by kernel_rfl
@[go_sem] theorem zero120:zeroT Tryz.prog 120=some [.str ⟨#[]⟩,.bool false]:=by kernel_rfl
@[go_sem] theorem lay125:layT Tryz.prog 125=some ⟨true,4⟩:=by kernel_rfl
@[go_sem] theorem ty125:tyT Tryz.prog 125=.struct [⟨0,1,false⟩,⟨1,1,false⟩,⟨2,1,false⟩,⟨3,1,false⟩]:=by kernel_rfl
@[go_sem] theorem zero125:zeroT Tryz.prog 125=some [.int .i64 0,.int .i64 0,.int .i64 0,.int .i64 0]:=by kernel_rfl
@[go_sem] theorem lvs125:leavesT Tryz.prog 9 125=some [.int,.int,.int,.int]:=by kernel_rfl
@[go_sem] theorem isAgg125:isAggT Tryz.prog 125=true:=by kernel_rfl
@[go_sem] theorem lay128:layT Tryz.prog 128=some ⟨true,7⟩:=by kernel_rfl
@[go_sem] theorem ty128:tyT Tryz.prog 128=.struct [⟨0,1,false⟩,⟨1,1,false⟩,⟨2,1,false⟩,⟨3,1,false⟩,⟨4,1,false⟩,⟨5,1,false⟩,⟨6,1,false⟩]:=by kernel_rfl
@[go_sem] theorem zero128:zeroT Tryz.prog 128=some [.int .i64 0,.int .i64 0,.int .i64 0,.int .i64 0,.int .i64 0,.int .i64 0,.bool false]:=by kernel_rfl
@[go_sem] theorem lvs128:leavesT Tryz.prog 9 128=some [.int,.int,.int,.int,.int,.int,.bool]:=by kernel_rfl
@[go_sem] theorem isAgg128:isAggT Tryz.prog 128=true:=by kernel_rfl
@[go_sem] theorem lay134:layT Tryz.prog 134=some ⟨true,4⟩:=by kernel_rfl
@[go_sem] theorem ty134:tyT Tryz.prog 134=.struct [⟨0,3,true⟩,⟨3,1,false⟩]:=by kernel_rfl
@[go_sem] theorem zero134:zeroT Tryz.prog 134=some [.int .i64 0,.int .i64 0,.int .i64 0,.int .i64 0]:=by kernel_rfl
@[go_sem] theorem lvs134:leavesT Tryz.prog 9 134=some [.int,.int,.int,.int]:=by kernel_rfl
@[go_sem] theorem isAgg134:isAggT Tryz.prog 134=true:=by kernel_rfl
@[go_sem] theorem ty137:tyT Tryz.prog 137=.slice 2 24 true:=by kernel_rfl
@[go_sem] theorem zel137:zeroElemT Tryz.prog 137=some [.str ⟨#[]⟩,.bool false]:=by kernel_rfl
@[go_sem] theorem ty143:tyT Tryz.prog 143=.slice 4 32 true:=by kernel_rfl
@[go_sem] theorem zel143:zeroElemT Tryz.prog 143=some [.int .i64 0,.int .i64 0,.int .i64 0,.int .i64 0]:=by kernel_rfl
@[go_sem] theorem ty171:tyT Tryz.prog 171=.arr 5 1 false:=by kernel_rfl
@[go_sem] theorem lay173:layT Tryz.prog 173=some ⟨true,8⟩:=by kernel_rfl
@[go_sem] theorem ty173:tyT Tryz.prog 173=.struct [⟨0,1,false⟩,⟨1,1,false⟩,⟨2,5,true⟩,⟨7,1,false⟩]:=by kernel_rfl
@[go_sem] theorem zero173:zeroT Tryz.prog 173=some [.int .i64 0,.int .i64 0,.int .i64 0,.int .i64 0,.int .i64 0,.int .i64 0,.int .i64 0,.int .i64 0]:=by kernel_rfl
@[go_sem] theorem lvs173:leavesT Tryz.prog 9 173=some [.int,.int,.int,.int,.int,.int,.int,.int]:=by kernel_rfl
@[go_sem] theorem isAgg173:isAggT Tryz.prog 173=true:=by kernel_rfl
@[go_sem] theorem ty227:tyT Tryz.prog 227=.struct [⟨0,3,true⟩,⟨3,1,false⟩]:=by kernel_rfl
@[go_sem] theorem zero227:zeroT Tryz.prog 227=some [.int .i64 0,.int .i64 0,.int .i64 0,.int .i64 0]:=by kernel_rfl
@[go_sem] theorem lay282:layT Tryz.prog 282=some ⟨false,1⟩:=by kernel_rfl
@[go_sem] theorem zero282:zeroT Tryz.prog 282=some [.nilfn]:=by kernel_rfl
@[go_sem] theorem ty308:tyT Tryz.prog 308=.slice 1 24 false:=by kernel_rfl
@[go_sem] theorem zel308:zeroElemT Tryz.prog 308=some [.nil]:=by kernel_rfl
@[go_sem] theorem ty325:tyT Tryz.prog 325=.slice 3 24 true:=by kernel_rfl
@[go_sem] theorem zel325:zeroElemT Tryz.prog 325=some [.int .i64 0,.int .i64 0,.int .i64 0]:=by kernel_rfl
@[go_sem] theorem ty332:tyT Tryz.prog 332=.struct [⟨0,1,false⟩,⟨1,1,false⟩,⟨2,1,false⟩]:=by kernel_rfl
@[go_sem] theorem zero332:zeroT Tryz.prog 332=some [.int .i64 0,.int .i64 0,.int .i64 0]:=by kernel_rfl
@[go_sem] theorem ty350:tyT Tryz.prog 350=.slice 3 24 true:=by kernel_rfl
@[go_sem] theorem zel350:zeroElemT Tryz.prog 350=some [.int .i64 0,.int .i64 0,.int .i64 0]:=by kernel_rfl
@[go_sem] theorem ty417:tyT Tryz.prog 417=.slice 1 1 false:=by kernel_rfl
@[go_sem] theorem zel417:zeroElemT Tryz.prog 417=some [.bool false]:=by kernel_rfl
end Go.Proofs.YtgnhdbdipfncgaaGreat
