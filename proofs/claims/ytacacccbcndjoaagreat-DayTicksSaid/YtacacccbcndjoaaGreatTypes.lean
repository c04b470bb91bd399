/- What the types of this seat's translation say, a closed fact each. No theorem of a claim. -/
import Derived.Test.YtacacccbcndjoaaGreatRows
import Derived.Test.YtacacccbcndjoaaGreatAbcEval2
namespace Go.Proofs.YtacacccbcndjoaaGreat
open Go.Abs
theorem mixed:Tryz.prog.follows .mixedOrders=true:=by kernel_rfl
@[go_sem] theorem ais:bT Tryz.prog 3=some ⟨false,1⟩:=by kernel_rfl
@[go_sem] theorem ty3:bO Tryz.prog 3=.int .i64:=by kernel_rfl
@[go_sem] theorem ah7:bT Tryz.prog 4=some ⟨false,1⟩:=by kernel_rfl
@[go_sem] theorem ty4:bO Tryz.prog 4=.bool:=by kernel_rfl
@[go_sem] theorem ty5:bO Tryz.prog 5=.int .u8:=by kernel_rfl
@[go_sem] theorem aid:bT Tryz.prog 9=some ⟨false,1⟩:=by kernel_rfl
@[go_sem] theorem ty9:bO Tryz.prog 9=.str:=by kernel_rfl
@[go_sem] theorem aib:bO Tryz.prog 22=.slice 17 136 true:=by kernel_rfl
@[go_sem] theorem ahz:bT Tryz.prog 24=some ⟨true,3⟩:=by kernel_rfl
@[go_sem] theorem ah5:bO Tryz.prog 24=.struct [⟨0,1,false⟩,⟨1,1,false⟩,⟨2,1,false⟩]:=by kernel_rfl
@[go_sem] theorem ahj:bT Tryz.prog 25=some ⟨false,1⟩:=by kernel_rfl
@[go_sem] theorem aeM:bO Tryz.prog 25=.slice 3 24 true:=by kernel_rfl
@[go_sem] theorem ahw:bB Tryz.prog 25=some [.int .i64 0,.int .i64 0,.int .i64 0]:=by kernel_rfl
@[go_sem] theorem agR:bT Tryz.prog 26=some ⟨false,1⟩:=by kernel_rfl
@[go_sem] theorem aeW:bO Tryz.prog 26=.slice 12 96 true:=by kernel_rfl
@[go_sem] theorem ahh:bB Tryz.prog 26=some [.int .i64 0,.int .i64 0,.int .i64 0,.int .i64 0,.int .i64 0,.int .i64 0,.int .i64 0,.int .i64 0,.int .i64 0,.int .i64 0,.int .i64 0,.int .i64 0]:=by kernel_rfl
@[go_sem] theorem ahC:bT Tryz.prog 27=some ⟨false,1⟩:=by kernel_rfl
@[go_sem] theorem ae3:bO Tryz.prog 27=.slice 4 32 true:=by kernel_rfl
@[go_sem] theorem agL:bB Tryz.prog 27=some [.int .i64 0,.int .i64 0,.int .i64 0,.int .i64 0]:=by kernel_rfl
@[go_sem] theorem ahK:bT Tryz.prog 29=some ⟨true,3⟩:=by kernel_rfl
@[go_sem] theorem ah8:bO Tryz.prog 29=.struct [⟨0,1,false⟩,⟨1,1,false⟩,⟨2,1,false⟩]:=by kernel_rfl
@[go_sem] theorem afa:cZ Tryz.prog 29=some [.nil,.nil,.nil]:=by kernel_rfl
@[go_sem] theorem ahr:bT Tryz.prog 30=some ⟨false,1⟩:=by kernel_rfl
@[go_sem] theorem afp:bO Tryz.prog 30=.slice 7 56 true:=by kernel_rfl
@[go_sem] theorem ag':bB Tryz.prog 30=some [.int .i64 0,.int .i64 0,.int .i64 0,.int .i64 0,.int .i64 0,.int .i64 0,.bool false]:=by kernel_rfl
@[go_sem] theorem agS:bT Tryz.prog 31=some ⟨false,1⟩:=by kernel_rfl
@[go_sem] theorem afI:bO Tryz.prog 31=.slice 4 32 true:=by kernel_rfl
@[go_sem] theorem agI:bB Tryz.prog 31=some [.int .i64 0,.int .i64 0,.int .i64 0,.int .i64 0]:=by kernel_rfl
@[go_sem] theorem agU:bT Tryz.prog 33=some ⟨true,3⟩:=by kernel_rfl
@[go_sem] theorem ah9:bO Tryz.prog 33=.struct [⟨0,1,false⟩,⟨1,1,false⟩,⟨2,1,false⟩]:=by kernel_rfl
@[go_sem] theorem afj:cZ Tryz.prog 33=some [.int .i64 0,.nil,.nil]:=by kernel_rfl
@[go_sem] theorem ahJ:bT Tryz.prog 34=some ⟨false,1⟩:=by kernel_rfl
@[go_sem] theorem agf:bO Tryz.prog 34=.slice 4 32 true:=by kernel_rfl
@[go_sem] theorem ag1:bB Tryz.prog 34=some [.int .i64 0,.int .i64 0,.int .i64 0,.int .i64 0]:=by kernel_rfl
@[go_sem] theorem ahd:bT Tryz.prog 36=some ⟨true,2⟩:=by kernel_rfl
@[go_sem] theorem ah':bO Tryz.prog 36=.struct [⟨0,1,false⟩,⟨1,1,false⟩]:=by kernel_rfl
@[go_sem] theorem afS:cZ Tryz.prog 36=some [.int .i64 0,.nil]:=by kernel_rfl
@[go_sem] theorem agT:bT Tryz.prog 37=some ⟨false,1⟩:=by kernel_rfl
@[go_sem] theorem agu:bO Tryz.prog 37=.slice 3 24 true:=by kernel_rfl
@[go_sem] theorem agH:bB Tryz.prog 37=some [.int .i64 0,.int .i64 0,.int .i64 0]:=by kernel_rfl
@[go_sem] theorem ahA:bT Tryz.prog 38=some ⟨false,1⟩:=by kernel_rfl
@[go_sem] theorem agm:bO Tryz.prog 38=.slice 4 32 true:=by kernel_rfl
@[go_sem] theorem agG:bB Tryz.prog 38=some [.int .i64 0,.int .i64 0,.int .i64 0,.int .i64 0]:=by kernel_rfl
@[go_sem] theorem ahD:bT Tryz.prog 39=some ⟨false,1⟩:=by kernel_rfl
@[go_sem] theorem aeL:bO Tryz.prog 39=.slice 5 40 true:=by kernel_rfl
@[go_sem] theorem ahu:bB Tryz.prog 39=some [.int .i64 0,.int .i64 0,.int .i64 0,.int .i64 0,.int .i64 0]:=by kernel_rfl
@[go_sem] theorem ahy:bT Tryz.prog 40=some ⟨false,1⟩:=by kernel_rfl
@[go_sem] theorem aip:bO Tryz.prog 40=.slice 7 88 true:=by kernel_rfl
@[go_sem] theorem ahM:bB Tryz.prog 40=some [.int .i64 0,.int .i64 0,.int .i64 0,.int .i64 0,.int .i64 0,.nil,.nil]:=by kernel_rfl
@[go_sem] theorem ag6:bT Tryz.prog 42=some ⟨true,15⟩:=by kernel_rfl
@[go_sem] theorem aim:bO Tryz.prog 42=.struct [⟨0,3,true⟩,⟨3,3,true⟩,⟨6,3,true⟩,⟨9,2,true⟩,⟨11,1,false⟩,⟨12,1,false⟩,⟨13,1,false⟩,⟨14,1,false⟩]:=by kernel_rfl
@[go_sem] theorem afO:cZ Tryz.prog 42=some [.int .i64 0,.int .i64 0,.int .i64 0,.nil,.nil,.nil,.int .i64 0,.nil,.nil,.int .i64 0,.nil,.nil,.nil,.nil,.nil]:=by kernel_rfl
@[go_sem] theorem ahb:bT Tryz.prog 44=some ⟨false,1⟩:=by kernel_rfl
@[go_sem] theorem afm:bO Tryz.prog 44=.slice 3 24 true:=by kernel_rfl
@[go_sem] theorem agP:bB Tryz.prog 44=some [.int .i64 0,.int .i64 0,.int .i64 0]:=by kernel_rfl
@[go_sem] theorem agO:bT Tryz.prog 45=some ⟨false,1⟩:=by kernel_rfl
@[go_sem] theorem ag9:bT Tryz.prog 50=some ⟨true,3⟩:=by kernel_rfl
@[go_sem] theorem ain:bO Tryz.prog 50=.struct [⟨0,1,false⟩,⟨1,1,false⟩,⟨2,1,false⟩]:=by kernel_rfl
@[go_sem] theorem aft:cZ Tryz.prog 50=some [.int .i64 0,.int .i64 0,.int .i64 0]:=by kernel_rfl
@[go_sem] theorem ahN:bT Tryz.prog 54=some ⟨true,3⟩:=by kernel_rfl
@[go_sem] theorem ah6:bO Tryz.prog 54=.struct [⟨0,1,false⟩,⟨1,1,false⟩,⟨2,1,false⟩]:=by kernel_rfl
@[go_sem] theorem afz:cZ Tryz.prog 54=some [.int .i64 0,.int .i64 0,.int .i64 0]:=by kernel_rfl
@[go_sem] theorem ahP:bT Tryz.prog 56=some ⟨true,4⟩:=by kernel_rfl
@[go_sem] theorem aia:bO Tryz.prog 56=.struct [⟨0,3,true⟩,⟨3,1,false⟩]:=by kernel_rfl
@[go_sem] theorem afh:cZ Tryz.prog 56=some [.int .i64 0,.int .i64 0,.int .i64 0,.int .i64 0]:=by kernel_rfl
@[go_sem] theorem aik:bO Tryz.prog 59=.arr 9 1 false:=by kernel_rfl
@[go_sem] theorem aga:cZ Tryz.prog 59=some [.int .i64 0,.int .i64 0,.int .i64 0,.int .i64 0,.int .i64 0,.int .i64 0,.int .i64 0,.int .i64 0,.int .i64 0]:=by kernel_rfl
@[go_sem] theorem ahk:bT Tryz.prog 60=some ⟨true,6⟩:=by kernel_rfl
@[go_sem] theorem ail:bO Tryz.prog 60=.arr 6 1 false:=by kernel_rfl
@[go_sem] theorem aeY:cZ Tryz.prog 60=some [.int .i64 0,.int .i64 0,.int .i64 0,.int .i64 0,.int .i64 0,.int .i64 0]:=by kernel_rfl
@[go_sem] theorem ag5:bT Tryz.prog 62=some ⟨true,17⟩:=by kernel_rfl
@[go_sem] theorem aih:bO Tryz.prog 62=.struct [⟨0,1,false⟩,⟨1,1,false⟩,⟨2,1,false⟩,⟨3,1,false⟩,⟨4,1,false⟩,⟨5,1,false⟩,⟨6,1,false⟩,⟨7,1,false⟩,⟨8,1,false⟩,⟨9,1,false⟩,⟨10,1,false⟩,⟨11,6,true⟩]:=by kernel_rfl
@[go_sem] theorem ae4:cZ Tryz.prog 62=some [.int .i64 0,.int .i64 0,.int .i64 0,.int .i64 0,.int .i64 0,.int .i64 0,.int .i64 0,.int .i64 0,.int .i64 0,.int .i64 0,.int .i64 0,.int .i64 0,.int .i64 0,.int .i64 0,.int .i64 0,.int .i64 0,.int .i64 0]:=by kernel_rfl
@[go_sem] theorem aiu:bO Tryz.prog 63=.int .u64:=by kernel_rfl
@[go_sem] theorem ag7:bT Tryz.prog 64=some ⟨false,1⟩:=by kernel_rfl
@[go_sem] theorem aeQ:bO Tryz.prog 64=.slice 8 64 true:=by kernel_rfl
@[go_sem] theorem agW:bB Tryz.prog 64=some [.int .i64 0,.int .i64 0,.int .i64 0,.int .i64 0,.int .i64 0,.int .i64 0,.int .i64 0,.int .i64 0]:=by kernel_rfl
@[go_sem] theorem agB:bT Tryz.prog 66=some ⟨true,5⟩:=by kernel_rfl
@[go_sem] theorem aiw:bO Tryz.prog 66=.struct [⟨0,1,false⟩,⟨1,1,false⟩,⟨2,1,false⟩,⟨3,1,false⟩,⟨4,1,false⟩]:=by kernel_rfl
@[go_sem] theorem afu:cZ Tryz.prog 66=some [.int .i64 0,.int .i64 0,.int .i64 0,.nil,.nil]:=by kernel_rfl
@[go_sem] theorem ahg:bT Tryz.prog 92=some ⟨true,7⟩:=by kernel_rfl
@[go_sem] theorem ah3:bO Tryz.prog 92=.struct [⟨0,1,false⟩,⟨1,1,false⟩,⟨2,5,true⟩]:=by kernel_rfl
@[go_sem] theorem ae0:cZ Tryz.prog 92=some [.int .i64 0,.int .i64 0,.int .i64 0,.int .i64 0,.int .i64 0,.nil,.nil]:=by kernel_rfl
@[go_sem] theorem afP:bT Tryz.prog 101=some ⟨true,2⟩:=by kernel_rfl
@[go_sem] theorem ag4:bO Tryz.prog 101=.struct [⟨0,1,false⟩,⟨1,1,false⟩]:=by kernel_rfl
@[go_sem] theorem adg:cZ Tryz.prog 101=some [.int .i64 0,.int .i64 0]:=by kernel_rfl
@[go_sem] theorem af3:bT Tryz.prog 103=some ⟨true,5⟩:=by kernel_rfl
@[go_sem] theorem ahU:bO Tryz.prog 103=.struct [⟨0,2,true⟩,⟨2,1,false⟩,⟨3,1,false⟩,⟨4,1,false⟩]:=by kernel_rfl
@[go_sem] theorem adm:cZ Tryz.prog 103=some [.int .i64 0,.int .i64 0,.int .i64 0,.int .i64 0,.int .i64 0]:=by kernel_rfl
@[go_sem] theorem agt:bT Tryz.prog 108=some ⟨true,12⟩:=by kernel_rfl
@[go_sem] theorem agZ:bO Tryz.prog 108=.struct [⟨0,1,false⟩,⟨1,1,false⟩,⟨2,1,false⟩,⟨3,1,false⟩,⟨4,1,false⟩,⟨5,1,false⟩,⟨6,6,true⟩]:=by kernel_rfl
@[go_sem] theorem aek:cZ Tryz.prog 108=some [.int .i64 0,.int .i64 0,.int .i64 0,.int .i64 0,.int .i64 0,.int .i64 0,.int .i64 0,.int .i64 0,.int .i64 0,.int .i64 0,.int .i64 0,.int .i64 0]:=by kernel_rfl
@[go_sem] theorem afV:bT Tryz.prog 111=some ⟨true,4⟩:=by kernel_rfl
@[go_sem] theorem agD:bO Tryz.prog 111=.struct [⟨0,1,false⟩,⟨1,1,false⟩,⟨2,1,false⟩,⟨3,1,false⟩]:=by kernel_rfl
@[go_sem] theorem ad':cZ Tryz.prog 111=some [.int .i64 0,.int .i64 0,.int .i64 0,.int .i64 0]:=by kernel_rfl
@[go_sem] theorem agq:bT Tryz.prog 114=some ⟨true,7⟩:=by kernel_rfl
@[go_sem] theorem ahL:bO Tryz.prog 114=.struct [⟨0,1,false⟩,⟨1,1,false⟩,⟨2,1,false⟩,⟨3,1,false⟩,⟨4,1,false⟩,⟨5,1,false⟩,⟨6,1,false⟩]:=by kernel_rfl
@[go_sem] theorem aem:cZ Tryz.prog 114=some [.int .i64 0,.int .i64 0,.int .i64 0,.int .i64 0,.int .i64 0,.int .i64 0,.bool false]:=by kernel_rfl
@[go_sem] theorem af0:bT Tryz.prog 117=some ⟨true,4⟩:=by kernel_rfl
@[go_sem] theorem ahx:bO Tryz.prog 117=.struct [⟨0,2,true⟩,⟨2,1,false⟩,⟨3,1,false⟩]:=by kernel_rfl
@[go_sem] theorem adj:cZ Tryz.prog 117=some [.int .i64 0,.int .i64 0,.int .i64 0,.int .i64 0]:=by kernel_rfl
@[go_sem] theorem aeX:bT Tryz.prog 120=some ⟨true,3⟩:=by kernel_rfl
@[go_sem] theorem agF:bO Tryz.prog 120=.struct [⟨0,1,false⟩,⟨1,1,false⟩,⟨2,1,false⟩]:=by kernel_rfl
@[go_sem] theorem aeB:cZ Tryz.prog 120=some [.int .i64 0,.int .i64 0,.int .i64 0]:=by kernel_rfl
@[go_sem] theorem agc:bT Tryz.prog 122=some ⟨true,4⟩:=by kernel_rfl
@[go_sem] theorem agz:bO Tryz.prog 122=.struct [⟨0,3,true⟩,⟨3,1,false⟩]:=by kernel_rfl
@[go_sem] theorem aef:cZ Tryz.prog 122=some [.int .i64 0,.int .i64 0,.int .i64 0,.int .i64 0]:=by kernel_rfl
@[go_sem] theorem afy:bT Tryz.prog 125=some ⟨true,3⟩:=by kernel_rfl
@[go_sem] theorem ahG:bO Tryz.prog 125=.struct [⟨0,1,false⟩,⟨1,1,false⟩,⟨2,1,false⟩]:=by kernel_rfl
@[go_sem] theorem aeh:cZ Tryz.prog 125=some [.int .i64 0,.int .i64 0,.int .i64 0]:=by kernel_rfl
@[go_sem] theorem afJ:bT Tryz.prog 129=some ⟨false,1⟩:=by kernel_rfl
@[go_sem] theorem ag3:bO Tryz.prog 129=.slice 1 8 false:=by kernel_rfl
@[go_sem] theorem agv:bB Tryz.prog 129=some [.int .i64 0]:=by kernel_rfl
@[go_sem] theorem agK:bO Tryz.prog 140=.slice 4 32 true:=by kernel_rfl
@[go_sem] theorem afW:bB Tryz.prog 140=some [.int .i64 0,.int .i64 0,.int .i64 0,.int .i64 0]:=by kernel_rfl
@[go_sem] theorem agy:bT Tryz.prog 192=some ⟨false,1⟩:=by kernel_rfl
@[go_sem] theorem aeb:cZ Tryz.prog 192=some [.iP]:=by kernel_rfl
@[go_sem] theorem agQ:bO Tryz.prog 201=.arr 5 1 false:=by kernel_rfl
@[go_sem] theorem agk:bT Tryz.prog 203=some ⟨true,8⟩:=by kernel_rfl
@[go_sem] theorem aha:bO Tryz.prog 203=.struct [⟨0,1,false⟩,⟨1,1,false⟩,⟨2,5,true⟩,⟨7,1,false⟩]:=by kernel_rfl
@[go_sem] theorem acP:cZ Tryz.prog 203=some [.int .i64 0,.int .i64 0,.int .i64 0,.int .i64 0,.int .i64 0,.int .i64 0,.int .i64 0,.int .i64 0]:=by kernel_rfl
@[go_sem] theorem afT:bT Tryz.prog 212=some ⟨false,1⟩:=by kernel_rfl
@[go_sem] theorem ahs:bO Tryz.prog 212=.int .u64:=by kernel_rfl
@[go_sem] theorem aeJ:bT Tryz.prog 214=some ⟨true,2⟩:=by kernel_rfl
@[go_sem] theorem ag0:bO Tryz.prog 214=.struct [⟨0,1,false⟩,⟨1,1,false⟩]:=by kernel_rfl
@[go_sem] theorem acH:cZ Tryz.prog 214=some [.int .i64 0,.int .u64 0]:=by kernel_rfl
@[go_sem] theorem afD:gm Tryz.prog 9 214=some [.int,.int]:=by kernel_rfl
@[go_sem] theorem isAgg214:xN Tryz.prog 214=true:=by kernel_rfl
@[go_sem] theorem agC:bO Tryz.prog 224=.struct [⟨0,3,true⟩,⟨3,1,false⟩]:=by kernel_rfl
@[go_sem] theorem aen:cZ Tryz.prog 224=some [.int .i64 0,.int .i64 0,.int .i64 0,.int .i64 0]:=by kernel_rfl
@[go_sem] theorem ahQ:bO Tryz.prog 259=.slice 1 24 false:=by kernel_rfl
@[go_sem] theorem ae6:bB Tryz.prog 259=some [.nil]:=by kernel_rfl
@[go_sem] theorem ahV:bO Tryz.prog 289=.slice 1 16 false:=by kernel_rfl
@[go_sem] theorem afb:bB Tryz.prog 289=some [.str ⟨#[]⟩]:=by kernel_rfl
@[go_sem] theorem ahI:bO Tryz.prog 299=.slice 3 24 true:=by kernel_rfl
@[go_sem] theorem agx:bB Tryz.prog 299=some [.int .i64 0,.int .i64 0,.int .i64 0]:=by kernel_rfl
@[go_sem] theorem ahm:bO Tryz.prog 322=.slice 2 16 true:=by kernel_rfl
@[go_sem] theorem afi:bB Tryz.prog 322=some [.int .i64 0,.int .u64 0]:=by kernel_rfl
@[go_sem] theorem ahl:bO Tryz.prog 336=.slice 3 24 true:=by kernel_rfl
@[go_sem] theorem afl:bB Tryz.prog 336=some [.int .i64 0,.int .i64 0,.int .i64 0]:=by kernel_rfl
@[go_sem] theorem agA:bO Tryz.prog 344=.struct [⟨0,1,false⟩,⟨1,1,false⟩,⟨2,1,false⟩]:=by kernel_rfl
@[go_sem] theorem acY:cZ Tryz.prog 344=some [.int .i64 0,.int .i64 0,.int .i64 0]:=by kernel_rfl
@[go_sem] theorem agY:bO Tryz.prog 363=.slice 1 1 false:=by kernel_rfl
@[go_sem] theorem afX:bB Tryz.prog 363=some [.bool false]:=by kernel_rfl
end Go.Proofs.YtacacccbcndjoaaGreat
