/- What the types of this seat's translation say, a closed fact each. No theorem of a claim. -/
import Derived.Test.YtnkobepdbkmedaaGreatRows
import Derived.Test.YtnkobepdbkmedaaGreatAbcEval2
namespace Go.Proofs.YtnkobepdbkmedaaGreat
open Go.Abs
theorem mixed:Tryz.prog.follows .mixedOrders=true:=by kernel_rfl
@[go_sem] theorem ahg:bQ Tryz.prog 3=some ⟨false,1⟩:=by kernel_rfl
@[go_sem] theorem ty3:bM Tryz.prog 3=.int .i64:=by kernel_rfl
@[go_sem] theorem ahf:bQ Tryz.prog 4=some ⟨false,1⟩:=by kernel_rfl
@[go_sem] theorem ty4:bM Tryz.prog 4=.bool:=by kernel_rfl
@[go_sem] theorem ty5:bM Tryz.prog 5=.int .u8:=by kernel_rfl
@[go_sem] theorem ah4:bQ Tryz.prog 9=some ⟨false,1⟩:=by kernel_rfl
@[go_sem] theorem ty9:bM Tryz.prog 9=.str:=by kernel_rfl
@[go_sem] theorem aht:bM Tryz.prog 22=.slice 17 136 true:=by kernel_rfl
@[go_sem] theorem agC:bQ Tryz.prog 24=some ⟨true,3⟩:=by kernel_rfl
@[go_sem] theorem ahj:bM Tryz.prog 24=.struct [⟨0,1,false⟩,⟨1,1,false⟩,⟨2,1,false⟩]:=by kernel_rfl
@[go_sem] theorem afE:bZ Tryz.prog 24=some [.int .i64 0,.int .i64 0,.int .i64 0]:=by kernel_rfl
@[go_sem] theorem agD:eY Tryz.prog 9 24=some [.int,.int,.int]:=by kernel_rfl
@[go_sem] theorem isAgg24:oW Tryz.prog 24=true:=by kernel_rfl
@[go_sem] theorem agU:bQ Tryz.prog 25=some ⟨false,1⟩:=by kernel_rfl
@[go_sem] theorem ahR:bM Tryz.prog 25=.slice 3 24 true:=by kernel_rfl
@[go_sem] theorem afT:cj Tryz.prog 25=some [.int .i64 0,.int .i64 0,.int .i64 0]:=by kernel_rfl
@[go_sem] theorem ag8:bQ Tryz.prog 26=some ⟨false,1⟩:=by kernel_rfl
@[go_sem] theorem ahr:bM Tryz.prog 26=.slice 12 96 true:=by kernel_rfl
@[go_sem] theorem aga:cj Tryz.prog 26=some [.int .i64 0,.int .i64 0,.int .i64 0,.int .i64 0,.int .i64 0,.int .i64 0,.int .i64 0,.int .i64 0,.int .i64 0,.int .i64 0,.int .i64 0,.int .i64 0]:=by kernel_rfl
@[go_sem] theorem af':bQ Tryz.prog 27=some ⟨false,1⟩:=by kernel_rfl
@[go_sem] theorem ah6:bM Tryz.prog 27=.slice 4 32 true:=by kernel_rfl
@[go_sem] theorem agx:cj Tryz.prog 27=some [.int .i64 0,.int .i64 0,.int .i64 0,.int .i64 0]:=by kernel_rfl
@[go_sem] theorem agI:bQ Tryz.prog 29=some ⟨true,3⟩:=by kernel_rfl
@[go_sem] theorem ahs:bM Tryz.prog 29=.struct [⟨0,1,false⟩,⟨1,1,false⟩,⟨2,1,false⟩]:=by kernel_rfl
@[go_sem] theorem ad':bZ Tryz.prog 29=some [.nil,.nil,.nil]:=by kernel_rfl
@[go_sem] theorem af7:bQ Tryz.prog 30=some ⟨false,1⟩:=by kernel_rfl
@[go_sem] theorem ahS:bM Tryz.prog 30=.slice 7 56 true:=by kernel_rfl
@[go_sem] theorem agl:cj Tryz.prog 30=some [.int .i64 0,.int .i64 0,.int .i64 0,.int .i64 0,.int .i64 0,.int .i64 0,.bool false]:=by kernel_rfl
@[go_sem] theorem ag':bQ Tryz.prog 31=some ⟨false,1⟩:=by kernel_rfl
@[go_sem] theorem ahQ:bM Tryz.prog 31=.slice 4 32 true:=by kernel_rfl
@[go_sem] theorem af4:cj Tryz.prog 31=some [.int .i64 0,.int .i64 0,.int .i64 0,.int .i64 0]:=by kernel_rfl
@[go_sem] theorem ag3:bQ Tryz.prog 33=some ⟨true,3⟩:=by kernel_rfl
@[go_sem] theorem ah1:bM Tryz.prog 33=.struct [⟨0,1,false⟩,⟨1,1,false⟩,⟨2,1,false⟩]:=by kernel_rfl
@[go_sem] theorem aei:bZ Tryz.prog 33=some [.int .i64 0,.nil,.nil]:=by kernel_rfl
@[go_sem] theorem ag1:bQ Tryz.prog 34=some ⟨false,1⟩:=by kernel_rfl
@[go_sem] theorem ahK:bM Tryz.prog 34=.slice 4 32 true:=by kernel_rfl
@[go_sem] theorem afU:cj Tryz.prog 34=some [.int .i64 0,.int .i64 0,.int .i64 0,.int .i64 0]:=by kernel_rfl
@[go_sem] theorem agy:bQ Tryz.prog 36=some ⟨true,2⟩:=by kernel_rfl
@[go_sem] theorem ahm:bM Tryz.prog 36=.struct [⟨0,1,false⟩,⟨1,1,false⟩]:=by kernel_rfl
@[go_sem] theorem aeT:bZ Tryz.prog 36=some [.int .i64 0,.nil]:=by kernel_rfl
@[go_sem] theorem afP:bQ Tryz.prog 37=some ⟨false,1⟩:=by kernel_rfl
@[go_sem] theorem ahu:bM Tryz.prog 37=.slice 3 24 true:=by kernel_rfl
@[go_sem] theorem af3:cj Tryz.prog 37=some [.int .i64 0,.int .i64 0,.int .i64 0]:=by kernel_rfl
@[go_sem] theorem agQ:bQ Tryz.prog 38=some ⟨false,1⟩:=by kernel_rfl
@[go_sem] theorem ahU:bM Tryz.prog 38=.slice 4 32 true:=by kernel_rfl
@[go_sem] theorem agG:cj Tryz.prog 38=some [.int .i64 0,.int .i64 0,.int .i64 0,.int .i64 0]:=by kernel_rfl
@[go_sem] theorem ag7:bQ Tryz.prog 39=some ⟨false,1⟩:=by kernel_rfl
@[go_sem] theorem ah0:bM Tryz.prog 39=.slice 5 40 true:=by kernel_rfl
@[go_sem] theorem agT:cj Tryz.prog 39=some [.int .i64 0,.int .i64 0,.int .i64 0,.int .i64 0,.int .i64 0]:=by kernel_rfl
@[go_sem] theorem ag4:bQ Tryz.prog 40=some ⟨false,1⟩:=by kernel_rfl
@[go_sem] theorem ahx:bM Tryz.prog 40=.slice 7 88 true:=by kernel_rfl
@[go_sem] theorem agW:cj Tryz.prog 40=some [.int .i64 0,.int .i64 0,.int .i64 0,.int .i64 0,.int .i64 0,.nil,.nil]:=by kernel_rfl
@[go_sem] theorem afZ:bQ Tryz.prog 42=some ⟨true,15⟩:=by kernel_rfl
@[go_sem] theorem ahY:bM Tryz.prog 42=.struct [⟨0,3,true⟩,⟨3,3,true⟩,⟨6,3,true⟩,⟨9,2,true⟩,⟨11,1,false⟩,⟨12,1,false⟩,⟨13,1,false⟩,⟨14,1,false⟩]:=by kernel_rfl
@[go_sem] theorem aeU:bZ Tryz.prog 42=some [.int .i64 0,.int .i64 0,.int .i64 0,.nil,.nil,.nil,.int .i64 0,.nil,.nil,.int .i64 0,.nil,.nil,.nil,.nil,.nil]:=by kernel_rfl
@[go_sem] theorem ahN:bM Tryz.prog 43=.func:=by kernel_rfl
@[go_sem] theorem aer:bZ Tryz.prog 43=some [.ew]:=by kernel_rfl
@[go_sem] theorem agR:bQ Tryz.prog 44=some ⟨false,1⟩:=by kernel_rfl
@[go_sem] theorem ahF:bM Tryz.prog 44=.func:=by kernel_rfl
@[go_sem] theorem afu:bZ Tryz.prog 44=some [.ew]:=by kernel_rfl
@[go_sem] theorem ag6:bQ Tryz.prog 46=some ⟨true,3⟩:=by kernel_rfl
@[go_sem] theorem ahH:bM Tryz.prog 46=.struct [⟨0,1,false⟩,⟨1,1,false⟩,⟨2,1,false⟩]:=by kernel_rfl
@[go_sem] theorem aeX:bZ Tryz.prog 46=some [.int .i64 0,.int .i64 0,.int .i64 0]:=by kernel_rfl
@[go_sem] theorem ahG:bM Tryz.prog 47=.struct [⟨0,3,true⟩,⟨3,1,false⟩]:=by kernel_rfl
@[go_sem] theorem agS:bQ Tryz.prog 48=some ⟨true,4⟩:=by kernel_rfl
@[go_sem] theorem ahA:bM Tryz.prog 48=.struct [⟨0,3,true⟩,⟨3,1,false⟩]:=by kernel_rfl
@[go_sem] theorem agJ:bQ Tryz.prog 49=some ⟨false,1⟩:=by kernel_rfl
@[go_sem] theorem ahq:bM Tryz.prog 49=.int .u64:=by kernel_rfl
@[go_sem] theorem aeB:bZ Tryz.prog 49=some [.int .u64 0]:=by kernel_rfl
@[go_sem] theorem ag5:bQ Tryz.prog 50=some ⟨true,2⟩:=by kernel_rfl
@[go_sem] theorem ah2:bM Tryz.prog 50=.struct [⟨0,1,false⟩,⟨1,1,false⟩]:=by kernel_rfl
@[go_sem] theorem agw:bQ Tryz.prog 52=some ⟨true,4⟩:=by kernel_rfl
@[go_sem] theorem ahE:bM Tryz.prog 52=.struct [⟨0,2,true⟩,⟨2,1,false⟩,⟨3,1,false⟩]:=by kernel_rfl
@[go_sem] theorem aeh:bZ Tryz.prog 52=some [.int .i64 0,.int .i64 0,.int .i64 0,.int .i64 0]:=by kernel_rfl
@[go_sem] theorem ahv:bM Tryz.prog 53=.struct [⟨0,2,true⟩,⟨2,1,false⟩,⟨3,1,false⟩]:=by kernel_rfl
@[go_sem] theorem agm:bQ Tryz.prog 55=some ⟨false,1⟩:=by kernel_rfl
@[go_sem] theorem ahk:bM Tryz.prog 55=.slice 1 16 false:=by kernel_rfl
@[go_sem] theorem aeG:bZ Tryz.prog 55=some [.nil]:=by kernel_rfl
@[go_sem] theorem afR:bQ Tryz.prog 57=some ⟨false,1⟩:=by kernel_rfl
@[go_sem] theorem ahz:bM Tryz.prog 57=.func:=by kernel_rfl
@[go_sem] theorem aep:bZ Tryz.prog 57=some [.ew]:=by kernel_rfl
@[go_sem] theorem ahB:bM Tryz.prog 59=.arr 9 1 false:=by kernel_rfl
@[go_sem] theorem af2:bQ Tryz.prog 61=some ⟨true,17⟩:=by kernel_rfl
@[go_sem] theorem ahn:bM Tryz.prog 61=.struct [⟨0,1,false⟩,⟨1,1,false⟩,⟨2,1,false⟩,⟨3,1,false⟩,⟨4,1,false⟩,⟨5,1,false⟩,⟨6,1,false⟩,⟨7,1,false⟩,⟨8,1,false⟩,⟨9,1,false⟩,⟨10,1,false⟩,⟨11,6,true⟩]:=by kernel_rfl
@[go_sem] theorem aet:bZ Tryz.prog 61=some [.int .i64 0,.int .i64 0,.int .i64 0,.int .i64 0,.int .i64 0,.int .i64 0,.int .i64 0,.int .i64 0,.int .i64 0,.int .i64 0,.int .i64 0,.int .i64 0,.int .i64 0,.int .i64 0,.int .i64 0,.int .i64 0,.int .i64 0]:=by kernel_rfl
@[go_sem] theorem agu:bQ Tryz.prog 64=some ⟨false,1⟩:=by kernel_rfl
@[go_sem] theorem ahC:bM Tryz.prog 64=.slice 3 24 true:=by kernel_rfl
@[go_sem] theorem zero64:bZ Tryz.prog 64=some [.nil]:=by kernel_rfl
@[go_sem] theorem agF:bQ Tryz.prog 65=some ⟨false,1⟩:=by kernel_rfl
@[go_sem] theorem ahO:bM Tryz.prog 65=.slice 8 64 true:=by kernel_rfl
@[go_sem] theorem aea:bZ Tryz.prog 65=some [.nil]:=by kernel_rfl
@[go_sem] theorem agz:bQ Tryz.prog 66=some ⟨true,5⟩:=by kernel_rfl
@[go_sem] theorem ahV:bM Tryz.prog 66=.struct [⟨0,1,false⟩,⟨1,1,false⟩,⟨2,1,false⟩,⟨3,1,false⟩,⟨4,1,false⟩]:=by kernel_rfl
@[go_sem] theorem aeW:bZ Tryz.prog 66=some [.int .i64 0,.int .i64 0,.int .i64 0,.nil,.nil]:=by kernel_rfl
@[go_sem] theorem agn:bQ Tryz.prog 70=some ⟨false,1⟩:=by kernel_rfl
@[go_sem] theorem ah3:bM Tryz.prog 70=.func:=by kernel_rfl
@[go_sem] theorem ae6:bZ Tryz.prog 70=some [.ew]:=by kernel_rfl
@[go_sem] theorem agY:bQ Tryz.prog 71=some ⟨false,1⟩:=by kernel_rfl
@[go_sem] theorem ahL:bM Tryz.prog 71=.func:=by kernel_rfl
@[go_sem] theorem afz:bZ Tryz.prog 71=some [.ew]:=by kernel_rfl
@[go_sem] theorem ahI:bM Tryz.prog 74=.struct [⟨0,1,false⟩,⟨1,1,false⟩,⟨2,5,true⟩]:=by kernel_rfl
@[go_sem] theorem aeA:bZ Tryz.prog 74=some [.int .i64 0,.int .i64 0,.int .i64 0,.int .i64 0,.int .i64 0,.nil,.nil]:=by kernel_rfl
@[go_sem] theorem agt:bQ Tryz.prog 77=some ⟨false,1⟩:=by kernel_rfl
@[go_sem] theorem ahp:bM Tryz.prog 77=.func:=by kernel_rfl
@[go_sem] theorem afQ:bQ Tryz.prog 79=some ⟨true,3⟩:=by kernel_rfl
@[go_sem] theorem ahW:bM Tryz.prog 79=.struct [⟨0,1,false⟩,⟨1,1,false⟩,⟨2,1,false⟩]:=by kernel_rfl
@[go_sem] theorem aeN:bZ Tryz.prog 79=some [.int .i64 0,.int .i64 0,.int .i64 0]:=by kernel_rfl
@[go_sem] theorem afV:eY Tryz.prog 9 79=some [.int,.int,.int]:=by kernel_rfl
@[go_sem] theorem isAgg79:oW Tryz.prog 79=true:=by kernel_rfl
@[go_sem] theorem afW:bQ Tryz.prog 86=some ⟨false,1⟩:=by kernel_rfl
@[go_sem] theorem aho:bM Tryz.prog 86=.func:=by kernel_rfl
@[go_sem] theorem afj:bZ Tryz.prog 86=some [.ew]:=by kernel_rfl
@[go_sem] theorem agc:bQ Tryz.prog 91=some ⟨false,1⟩:=by kernel_rfl
@[go_sem] theorem ahh:bM Tryz.prog 91=.func:=by kernel_rfl
@[go_sem] theorem afF:bZ Tryz.prog 91=some [.ew]:=by kernel_rfl
@[go_sem] theorem ahy:bM Tryz.prog 97=.struct [⟨0,3,true⟩,⟨3,1,false⟩]:=by kernel_rfl
@[go_sem] theorem agP:bQ Tryz.prog 98=some ⟨true,4⟩:=by kernel_rfl
@[go_sem] theorem ahM:bM Tryz.prog 98=.struct [⟨0,3,true⟩,⟨3,1,false⟩]:=by kernel_rfl
@[go_sem] theorem aem:bZ Tryz.prog 98=some [.int .i64 0,.int .i64 0,.int .i64 0,.int .i64 0]:=by kernel_rfl
@[go_sem] theorem af1:eY Tryz.prog 9 98=some [.int,.int,.int,.int]:=by kernel_rfl
@[go_sem] theorem isAgg98:oW Tryz.prog 98=true:=by kernel_rfl
@[go_sem] theorem ae0:bQ Tryz.prog 100=some ⟨true,5⟩:=by kernel_rfl
@[go_sem] theorem agO:bM Tryz.prog 100=.struct [⟨0,2,true⟩,⟨2,1,false⟩,⟨3,1,false⟩,⟨4,1,false⟩]:=by kernel_rfl
@[go_sem] theorem acA:bZ Tryz.prog 100=some [.int .i64 0,.int .i64 0,.int .i64 0,.int .i64 0,.int .i64 0]:=by kernel_rfl
@[go_sem] theorem aex:eY Tryz.prog 9 100=some [.int,.int,.int,.int,.int]:=by kernel_rfl
@[go_sem] theorem isAgg100:oW Tryz.prog 100=true:=by kernel_rfl
@[go_sem] theorem ad9:bQ Tryz.prog 106=some ⟨false,1⟩:=by kernel_rfl
@[go_sem] theorem ag0:bM Tryz.prog 106=.func:=by kernel_rfl
@[go_sem] theorem ab6:bZ Tryz.prog 106=some [.ew]:=by kernel_rfl
@[go_sem] theorem agi:bM Tryz.prog 107=.func:=by kernel_rfl
@[go_sem] theorem aeg:bQ Tryz.prog 110=some ⟨false,1⟩:=by kernel_rfl
@[go_sem] theorem afX:bM Tryz.prog 110=.func:=by kernel_rfl
@[go_sem] theorem acR:bZ Tryz.prog 110=some [.ew]:=by kernel_rfl
@[go_sem] theorem aeP:bQ Tryz.prog 120=some ⟨false,1⟩:=by kernel_rfl
@[go_sem] theorem af0:bM Tryz.prog 120=.func:=by kernel_rfl
@[go_sem] theorem acF:bZ Tryz.prog 120=some [.ew]:=by kernel_rfl
@[go_sem] theorem ae5:bQ Tryz.prog 125=some ⟨false,1⟩:=by kernel_rfl
@[go_sem] theorem agj:bM Tryz.prog 125=.slice 2 16 true:=by kernel_rfl
@[go_sem] theorem adO:bZ Tryz.prog 125=some [.nil]:=by kernel_rfl
@[go_sem] theorem afl:bQ Tryz.prog 128=some ⟨true,2⟩:=by kernel_rfl
@[go_sem] theorem agb:bM Tryz.prog 128=.struct [⟨0,1,false⟩,⟨1,1,false⟩]:=by kernel_rfl
@[go_sem] theorem adJ:bZ Tryz.prog 128=some [.int .i64 0,.int .u64 0]:=by kernel_rfl
@[go_sem] theorem aeb:eY Tryz.prog 9 128=some [.int,.int]:=by kernel_rfl
@[go_sem] theorem isAgg128:oW Tryz.prog 128=true:=by kernel_rfl
@[go_sem] theorem aeV:bQ Tryz.prog 134=some ⟨false,1⟩:=by kernel_rfl
@[go_sem] theorem agh:bM Tryz.prog 134=.func:=by kernel_rfl
@[go_sem] theorem adG:bZ Tryz.prog 134=some [.ew]:=by kernel_rfl
@[go_sem] theorem agB:bM Tryz.prog 143=.func:=by kernel_rfl
@[go_sem] theorem agV:bM Tryz.prog 171=.func:=by kernel_rfl
@[go_sem] theorem aej:bQ Tryz.prog 173=some ⟨false,1⟩:=by kernel_rfl
@[go_sem] theorem ahc:bM Tryz.prog 173=.func:=by kernel_rfl
@[go_sem] theorem adl:bZ Tryz.prog 173=some [.ew]:=by kernel_rfl
@[go_sem] theorem af9:bM Tryz.prog 223=.func:=by kernel_rfl
@[go_sem] theorem acy:bZ Tryz.prog 223=some [.ew]:=by kernel_rfl
@[go_sem] theorem ahd:bM Tryz.prog 227=.func:=by kernel_rfl
@[go_sem] theorem ac4:bZ Tryz.prog 227=some [.ew]:=by kernel_rfl
@[go_sem] theorem ae3:bQ Tryz.prog 282=some ⟨false,1⟩:=by kernel_rfl
@[go_sem] theorem ac6:bZ Tryz.prog 282=some [.ew]:=by kernel_rfl
@[go_sem] theorem agX:bM Tryz.prog 308=.func:=by kernel_rfl
@[go_sem] theorem ahb:bM Tryz.prog 325=.func:=by kernel_rfl
end Go.Proofs.YtnkobepdbkmedaaGreat
