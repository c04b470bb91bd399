/- What the types of this seat's translation say, a closed fact each. No theorem of a claim. -/
import Derived.Test.YtnkobepdbkmedaaGreatRows
import Derived.Test.YtnkobepdbkmedaaGreatAbcEval2
namespace Go.Proofs.YtnkobepdbkmedaaGreat
open Go.Abs
theorem mixed:Tryz.prog.follows .mixedOrders=true:=by kernel_rfl
@[go_sem] theorem ahF:bT Tryz.prog 3=some ⟨false,1⟩:=by kernel_rfl
@[go_sem] theorem ty3:bO Tryz.prog 3=.int .i64:=by kernel_rfl
@[go_sem] theorem ahu:bT Tryz.prog 4=some ⟨false,1⟩:=by kernel_rfl
@[go_sem] theorem ty4:bO Tryz.prog 4=.bool:=by kernel_rfl
@[go_sem] theorem ty5:bO Tryz.prog 5=.int .u8:=by kernel_rfl
@[go_sem] theorem ahz:bT Tryz.prog 9=some ⟨false,1⟩:=by kernel_rfl
@[go_sem] theorem ty9:bO Tryz.prog 9=.str:=by kernel_rfl
@[go_sem] theorem ahV:bO Tryz.prog 22=.slice 17 136 true:=by kernel_rfl
@[go_sem] theorem agv:bT Tryz.prog 24=some ⟨true,3⟩:=by kernel_rfl
@[go_sem] theorem aib:bO Tryz.prog 24=.struct [⟨0,1,false⟩,⟨1,1,false⟩,⟨2,1,false⟩]:=by kernel_rfl
@[go_sem] theorem aeO:cK Tryz.prog 24=some [.int .i64 0,.int .i64 0,.int .i64 0]:=by kernel_rfl
@[go_sem] theorem afZ:cu Tryz.prog 9 24=some [.int,.int,.int]:=by kernel_rfl
@[go_sem] theorem isAgg24:gN Tryz.prog 24=true:=by kernel_rfl
@[go_sem] theorem agS:bT Tryz.prog 25=some ⟨false,1⟩:=by kernel_rfl
@[go_sem] theorem ahy:bO Tryz.prog 25=.slice 3 24 true:=by kernel_rfl
@[go_sem] theorem agA:bA Tryz.prog 25=some [.int .i64 0,.int .i64 0,.int .i64 0]:=by kernel_rfl
@[go_sem] theorem agl:bT Tryz.prog 26=some ⟨false,1⟩:=by kernel_rfl
@[go_sem] theorem ahO:bO Tryz.prog 26=.slice 12 96 true:=by kernel_rfl
@[go_sem] theorem ag8:bA Tryz.prog 26=some [.int .i64 0,.int .i64 0,.int .i64 0,.int .i64 0,.int .i64 0,.int .i64 0,.int .i64 0,.int .i64 0,.int .i64 0,.int .i64 0,.int .i64 0,.int .i64 0]:=by kernel_rfl
@[go_sem] theorem agq:bT Tryz.prog 27=some ⟨false,1⟩:=by kernel_rfl
@[go_sem] theorem ah7:bO Tryz.prog 27=.slice 4 32 true:=by kernel_rfl
@[go_sem] theorem age:bA Tryz.prog 27=some [.int .i64 0,.int .i64 0,.int .i64 0,.int .i64 0]:=by kernel_rfl
@[go_sem] theorem agr:bT Tryz.prog 29=some ⟨true,3⟩:=by kernel_rfl
@[go_sem] theorem ahN:bO Tryz.prog 29=.struct [⟨0,1,false⟩,⟨1,1,false⟩,⟨2,1,false⟩]:=by kernel_rfl
@[go_sem] theorem aeR:cK Tryz.prog 29=some [.nil,.nil,.nil]:=by kernel_rfl
@[go_sem] theorem afY:bT Tryz.prog 30=some ⟨false,1⟩:=by kernel_rfl
@[go_sem] theorem aht:bO Tryz.prog 30=.slice 7 56 true:=by kernel_rfl
@[go_sem] theorem af0:bA Tryz.prog 30=some [.int .i64 0,.int .i64 0,.int .i64 0,.int .i64 0,.int .i64 0,.int .i64 0,.bool false]:=by kernel_rfl
@[go_sem] theorem agV:bT Tryz.prog 31=some ⟨false,1⟩:=by kernel_rfl
@[go_sem] theorem ahS:bO Tryz.prog 31=.slice 4 32 true:=by kernel_rfl
@[go_sem] theorem agF:bA Tryz.prog 31=some [.int .i64 0,.int .i64 0,.int .i64 0,.int .i64 0]:=by kernel_rfl
@[go_sem] theorem afW:bT Tryz.prog 33=some ⟨true,3⟩:=by kernel_rfl
@[go_sem] theorem ahD:bO Tryz.prog 33=.struct [⟨0,1,false⟩,⟨1,1,false⟩,⟨2,1,false⟩]:=by kernel_rfl
@[go_sem] theorem aet:cK Tryz.prog 33=some [.int .i64 0,.nil,.nil]:=by kernel_rfl
@[go_sem] theorem ag1:bT Tryz.prog 34=some ⟨false,1⟩:=by kernel_rfl
@[go_sem] theorem ahG:bO Tryz.prog 34=.slice 4 32 true:=by kernel_rfl
@[go_sem] theorem aga:bA Tryz.prog 34=some [.int .i64 0,.int .i64 0,.int .i64 0,.int .i64 0]:=by kernel_rfl
@[go_sem] theorem aho:bT Tryz.prog 36=some ⟨true,2⟩:=by kernel_rfl
@[go_sem] theorem ahM:bO Tryz.prog 36=.struct [⟨0,1,false⟩,⟨1,1,false⟩]:=by kernel_rfl
@[go_sem] theorem afK:cK Tryz.prog 36=some [.int .i64 0,.nil]:=by kernel_rfl
@[go_sem] theorem agI:bT Tryz.prog 37=some ⟨false,1⟩:=by kernel_rfl
@[go_sem] theorem aia:bO Tryz.prog 37=.slice 3 24 true:=by kernel_rfl
@[go_sem] theorem aha:bA Tryz.prog 37=some [.int .i64 0,.int .i64 0,.int .i64 0]:=by kernel_rfl
@[go_sem] theorem agw:bT Tryz.prog 38=some ⟨false,1⟩:=by kernel_rfl
@[go_sem] theorem ah8:bO Tryz.prog 38=.slice 4 32 true:=by kernel_rfl
@[go_sem] theorem af3:bA Tryz.prog 38=some [.int .i64 0,.int .i64 0,.int .i64 0,.int .i64 0]:=by kernel_rfl
@[go_sem] theorem ahf:bT Tryz.prog 39=some ⟨false,1⟩:=by kernel_rfl
@[go_sem] theorem ahP:bO Tryz.prog 39=.slice 5 40 true:=by kernel_rfl
@[go_sem] theorem af':bA Tryz.prog 39=some [.int .i64 0,.int .i64 0,.int .i64 0,.int .i64 0,.int .i64 0]:=by kernel_rfl
@[go_sem] theorem agf:bT Tryz.prog 40=some ⟨false,1⟩:=by kernel_rfl
@[go_sem] theorem ah6:bO Tryz.prog 40=.slice 7 88 true:=by kernel_rfl
@[go_sem] theorem agK:bA Tryz.prog 40=some [.int .i64 0,.int .i64 0,.int .i64 0,.int .i64 0,.int .i64 0,.nil,.nil]:=by kernel_rfl
@[go_sem] theorem agt:bT Tryz.prog 42=some ⟨true,15⟩:=by kernel_rfl
@[go_sem] theorem ahA:bO Tryz.prog 42=.struct [⟨0,3,true⟩,⟨3,3,true⟩,⟨6,3,true⟩,⟨9,2,true⟩,⟨11,1,false⟩,⟨12,1,false⟩,⟨13,1,false⟩,⟨14,1,false⟩]:=by kernel_rfl
@[go_sem] theorem afI:cK Tryz.prog 42=some [.int .i64 0,.int .i64 0,.int .i64 0,.nil,.nil,.nil,.int .i64 0,.nil,.nil,.int .i64 0,.nil,.nil,.nil,.nil,.nil]:=by kernel_rfl
@[go_sem] theorem agE:bT Tryz.prog 46=some ⟨true,3⟩:=by kernel_rfl
@[go_sem] theorem ah3:bO Tryz.prog 46=.struct [⟨0,1,false⟩,⟨1,1,false⟩,⟨2,1,false⟩]:=by kernel_rfl
@[go_sem] theorem afC:cK Tryz.prog 46=some [.int .i64 0,.int .i64 0,.int .i64 0]:=by kernel_rfl
@[go_sem] theorem agU:cu Tryz.prog 9 46=some [.int,.int,.int]:=by kernel_rfl
@[go_sem] theorem isAgg46:gN Tryz.prog 46=true:=by kernel_rfl
@[go_sem] theorem af7:bT Tryz.prog 48=some ⟨true,4⟩:=by kernel_rfl
@[go_sem] theorem ahw:bO Tryz.prog 48=.struct [⟨0,3,true⟩,⟨3,1,false⟩]:=by kernel_rfl
@[go_sem] theorem afc:cK Tryz.prog 48=some [.int .i64 0,.int .i64 0,.int .i64 0,.int .i64 0]:=by kernel_rfl
@[go_sem] theorem agT:cu Tryz.prog 9 48=some [.int,.int,.int,.int]:=by kernel_rfl
@[go_sem] theorem isAgg48:gN Tryz.prog 48=true:=by kernel_rfl
@[go_sem] theorem ah5:bO Tryz.prog 49=.int .u64:=by kernel_rfl
@[go_sem] theorem agb:bT Tryz.prog 51=some ⟨true,2⟩:=by kernel_rfl
@[go_sem] theorem aid:bO Tryz.prog 51=.struct [⟨0,1,false⟩,⟨1,1,false⟩]:=by kernel_rfl
@[go_sem] theorem afH:cK Tryz.prog 51=some [.int .i64 0,.int .i64 0]:=by kernel_rfl
@[go_sem] theorem agp:bT Tryz.prog 53=some ⟨true,4⟩:=by kernel_rfl
@[go_sem] theorem ah1:bO Tryz.prog 53=.struct [⟨0,2,true⟩,⟨2,1,false⟩,⟨3,1,false⟩]:=by kernel_rfl
@[go_sem] theorem afy:cK Tryz.prog 53=some [.int .i64 0,.int .i64 0,.int .i64 0,.int .i64 0]:=by kernel_rfl
@[go_sem] theorem ahq:cu Tryz.prog 9 53=some [.int,.int,.int,.int]:=by kernel_rfl
@[go_sem] theorem isAgg53:gN Tryz.prog 53=true:=by kernel_rfl
@[go_sem] theorem ahB:bO Tryz.prog 55=.slice 1 16 false:=by kernel_rfl
@[go_sem] theorem agk:bA Tryz.prog 55=some [.str ⟨#[]⟩]:=by kernel_rfl
@[go_sem] theorem ahJ:bO Tryz.prog 59=.arr 9 1 false:=by kernel_rfl
@[go_sem] theorem aeL:cK Tryz.prog 59=some [.int .i64 0,.int .i64 0,.int .i64 0,.int .i64 0,.int .i64 0,.int .i64 0,.int .i64 0,.int .i64 0,.int .i64 0]:=by kernel_rfl
@[go_sem] theorem agX:bT Tryz.prog 60=some ⟨true,6⟩:=by kernel_rfl
@[go_sem] theorem ahY:bO Tryz.prog 60=.arr 6 1 false:=by kernel_rfl
@[go_sem] theorem aeX:cK Tryz.prog 60=some [.int .i64 0,.int .i64 0,.int .i64 0,.int .i64 0,.int .i64 0,.int .i64 0]:=by kernel_rfl
@[go_sem] theorem ago:bT Tryz.prog 62=some ⟨true,17⟩:=by kernel_rfl
@[go_sem] theorem ahI:bO Tryz.prog 62=.struct [⟨0,1,false⟩,⟨1,1,false⟩,⟨2,1,false⟩,⟨3,1,false⟩,⟨4,1,false⟩,⟨5,1,false⟩,⟨6,1,false⟩,⟨7,1,false⟩,⟨8,1,false⟩,⟨9,1,false⟩,⟨10,1,false⟩,⟨11,6,true⟩]:=by kernel_rfl
@[go_sem] theorem aeY:cK Tryz.prog 62=some [.int .i64 0,.int .i64 0,.int .i64 0,.int .i64 0,.int .i64 0,.int .i64 0,.int .i64 0,.int .i64 0,.int .i64 0,.int .i64 0,.int .i64 0,.int .i64 0,.int .i64 0,.int .i64 0,.int .i64 0,.int .i64 0,.int .i64 0]:=by kernel_rfl
@[go_sem] theorem ag0:bT Tryz.prog 63=some ⟨false,1⟩:=by kernel_rfl
@[go_sem] theorem agR:bT Tryz.prog 64=some ⟨false,1⟩:=by kernel_rfl
@[go_sem] theorem ahH:bO Tryz.prog 64=.slice 3 24 true:=by kernel_rfl
@[go_sem] theorem agy:bA Tryz.prog 64=some [.int .i64 0,.int .i64 0,.int .i64 0]:=by kernel_rfl
@[go_sem] theorem ag':bT Tryz.prog 65=some ⟨false,1⟩:=by kernel_rfl
@[go_sem] theorem ahE:bO Tryz.prog 65=.slice 8 64 true:=by kernel_rfl
@[go_sem] theorem afU:bA Tryz.prog 65=some [.int .i64 0,.int .i64 0,.int .i64 0,.int .i64 0,.int .i64 0,.int .i64 0,.int .i64 0,.int .i64 0]:=by kernel_rfl
@[go_sem] theorem ahl:bT Tryz.prog 67=some ⟨true,5⟩:=by kernel_rfl
@[go_sem] theorem ah2:bO Tryz.prog 67=.struct [⟨0,1,false⟩,⟨1,1,false⟩,⟨2,1,false⟩,⟨3,1,false⟩,⟨4,1,false⟩]:=by kernel_rfl
@[go_sem] theorem afz:cK Tryz.prog 67=some [.int .i64 0,.int .i64 0,.int .i64 0,.nil,.nil]:=by kernel_rfl
@[go_sem] theorem afN:bT Tryz.prog 74=some ⟨true,7⟩:=by kernel_rfl
@[go_sem] theorem ahv:bO Tryz.prog 74=.struct [⟨0,1,false⟩,⟨1,1,false⟩,⟨2,5,true⟩]:=by kernel_rfl
@[go_sem] theorem afl:cK Tryz.prog 74=some [.int .i64 0,.int .i64 0,.int .i64 0,.int .i64 0,.int .i64 0,.nil,.nil]:=by kernel_rfl
@[go_sem] theorem ags:bT Tryz.prog 76=some ⟨true,2⟩:=by kernel_rfl
@[go_sem] theorem ahW:bO Tryz.prog 76=.struct [⟨0,1,false⟩,⟨1,1,false⟩]:=by kernel_rfl
@[go_sem] theorem ae5:cK Tryz.prog 76=some [.str ⟨#[]⟩,.bool false]:=by kernel_rfl
@[go_sem] theorem ahc:bT Tryz.prog 79=some ⟨true,3⟩:=by kernel_rfl
@[go_sem] theorem ahZ:bO Tryz.prog 79=.struct [⟨0,1,false⟩,⟨1,1,false⟩,⟨2,1,false⟩]:=by kernel_rfl
@[go_sem] theorem aft:cK Tryz.prog 79=some [.int .i64 0,.int .i64 0,.int .i64 0]:=by kernel_rfl
@[go_sem] theorem ahh:cu Tryz.prog 9 79=some [.int,.int,.int]:=by kernel_rfl
@[go_sem] theorem isAgg79:gN Tryz.prog 79=true:=by kernel_rfl
@[go_sem] theorem ag7:bT Tryz.prog 82=some ⟨true,12⟩:=by kernel_rfl
@[go_sem] theorem aic:bO Tryz.prog 82=.struct [⟨0,1,false⟩,⟨1,1,false⟩,⟨2,1,false⟩,⟨3,1,false⟩,⟨4,1,false⟩,⟨5,1,false⟩,⟨6,6,true⟩]:=by kernel_rfl
@[go_sem] theorem aeo:cK Tryz.prog 82=some [.int .i64 0,.int .i64 0,.int .i64 0,.int .i64 0,.int .i64 0,.int .i64 0,.int .i64 0,.int .i64 0,.int .i64 0,.int .i64 0,.int .i64 0,.int .i64 0]:=by kernel_rfl
@[go_sem] theorem af9:cu Tryz.prog 9 82=some [.int,.int,.int,.int,.int,.int,.int,.int,.int,.int,.int,.int]:=by kernel_rfl
@[go_sem] theorem isAgg82:gN Tryz.prog 82=true:=by kernel_rfl
@[go_sem] theorem agJ:bT Tryz.prog 85=some ⟨true,4⟩:=by kernel_rfl
@[go_sem] theorem ahs:bO Tryz.prog 85=.struct [⟨0,1,false⟩,⟨1,1,false⟩,⟨2,1,false⟩,⟨3,1,false⟩]:=by kernel_rfl
@[go_sem] theorem afB:cK Tryz.prog 85=some [.int .i64 0,.int .i64 0,.int .i64 0,.int .i64 0]:=by kernel_rfl
@[go_sem] theorem agn:cu Tryz.prog 9 85=some [.int,.int,.int,.int]:=by kernel_rfl
@[go_sem] theorem isAgg85:gN Tryz.prog 85=true:=by kernel_rfl
@[go_sem] theorem agZ:bT Tryz.prog 88=some ⟨true,7⟩:=by kernel_rfl
@[go_sem] theorem ahx:bO Tryz.prog 88=.struct [⟨0,1,false⟩,⟨1,1,false⟩,⟨2,1,false⟩,⟨3,1,false⟩,⟨4,1,false⟩,⟨5,1,false⟩,⟨6,1,false⟩]:=by kernel_rfl
@[go_sem] theorem afG:cK Tryz.prog 88=some [.int .i64 0,.int .i64 0,.int .i64 0,.int .i64 0,.int .i64 0,.int .i64 0,.bool false]:=by kernel_rfl
@[go_sem] theorem agc:cu Tryz.prog 9 88=some [.int,.int,.int,.int,.int,.int,.bool]:=by kernel_rfl
@[go_sem] theorem isAgg88:gN Tryz.prog 88=true:=by kernel_rfl
@[go_sem] theorem afQ:bT Tryz.prog 93=some ⟨true,3⟩:=by kernel_rfl
@[go_sem] theorem ahT:bO Tryz.prog 93=.struct [⟨0,1,false⟩,⟨1,1,false⟩,⟨2,1,false⟩]:=by kernel_rfl
@[go_sem] theorem aew:cK Tryz.prog 93=some [.int .i64 0,.int .i64 0,.int .i64 0]:=by kernel_rfl
@[go_sem] theorem afR:cu Tryz.prog 9 93=some [.int,.int,.int]:=by kernel_rfl
@[go_sem] theorem isAgg93:gN Tryz.prog 93=true:=by kernel_rfl
@[go_sem] theorem ahg:bT Tryz.prog 96=some ⟨true,3⟩:=by kernel_rfl
@[go_sem] theorem ah9:bO Tryz.prog 96=.struct [⟨0,1,false⟩,⟨1,1,false⟩,⟨2,1,false⟩]:=by kernel_rfl
@[go_sem] theorem afn:cK Tryz.prog 96=some [.int .i64 0,.int .i64 0,.int .i64 0]:=by kernel_rfl
@[go_sem] theorem agC:cu Tryz.prog 9 96=some [.int,.int,.int]:=by kernel_rfl
@[go_sem] theorem isAgg96:gN Tryz.prog 96=true:=by kernel_rfl
@[go_sem] theorem agj:bT Tryz.prog 98=some ⟨true,4⟩:=by kernel_rfl
@[go_sem] theorem ahR:bO Tryz.prog 98=.struct [⟨0,3,true⟩,⟨3,1,false⟩]:=by kernel_rfl
@[go_sem] theorem aeN:cK Tryz.prog 98=some [.int .i64 0,.int .i64 0,.int .i64 0,.int .i64 0]:=by kernel_rfl
@[go_sem] theorem ahe:cu Tryz.prog 9 98=some [.int,.int,.int,.int]:=by kernel_rfl
@[go_sem] theorem isAgg98:gN Tryz.prog 98=true:=by kernel_rfl
@[go_sem] theorem aep:bT Tryz.prog 101=some ⟨true,5⟩:=by kernel_rfl
@[go_sem] theorem agB:bO Tryz.prog 101=.struct [⟨0,2,true⟩,⟨2,1,false⟩,⟨3,1,false⟩,⟨4,1,false⟩]:=by kernel_rfl
@[go_sem] theorem acv:cK Tryz.prog 101=some [.int .i64 0,.int .i64 0,.int .i64 0,.int .i64 0,.int .i64 0]:=by kernel_rfl
@[go_sem] theorem ae':cu Tryz.prog 9 101=some [.int,.int,.int,.int,.int]:=by kernel_rfl
@[go_sem] theorem isAgg101:gN Tryz.prog 101=true:=by kernel_rfl
@[go_sem] theorem af5:bO Tryz.prog 103=.slice 2 24 true:=by kernel_rfl
@[go_sem] theorem afj:bA Tryz.prog 103=some [.str ⟨#[]⟩,.bool false]:=by kernel_rfl
@[go_sem] theorem af6:bO Tryz.prog 114=.arr 5 1 false:=by kernel_rfl
@[go_sem] theorem ad4:bT Tryz.prog 116=some ⟨true,8⟩:=by kernel_rfl
@[go_sem] theorem afT:bO Tryz.prog 116=.struct [⟨0,1,false⟩,⟨1,1,false⟩,⟨2,5,true⟩,⟨7,1,false⟩]:=by kernel_rfl
@[go_sem] theorem acH:cK Tryz.prog 116=some [.int .i64 0,.int .i64 0,.int .i64 0,.int .i64 0,.int .i64 0,.int .i64 0,.int .i64 0,.int .i64 0]:=by kernel_rfl
@[go_sem] theorem aeI:cu Tryz.prog 9 116=some [.int,.int,.int,.int,.int,.int,.int,.int]:=by kernel_rfl
@[go_sem] theorem isAgg116:gN Tryz.prog 116=true:=by kernel_rfl
@[go_sem] theorem ahn:bO Tryz.prog 125=.slice 2 16 true:=by kernel_rfl
@[go_sem] theorem aez:bA Tryz.prog 125=some [.int .i64 0,.int .u64 0]:=by kernel_rfl
@[go_sem] theorem aek:bT Tryz.prog 126=some ⟨false,1⟩:=by kernel_rfl
@[go_sem] theorem ag9:bO Tryz.prog 126=.int .u64:=by kernel_rfl
@[go_sem] theorem aeE:bT Tryz.prog 128=some ⟨true,2⟩:=by kernel_rfl
@[go_sem] theorem ag3:bO Tryz.prog 128=.struct [⟨0,1,false⟩,⟨1,1,false⟩]:=by kernel_rfl
@[go_sem] theorem ad0:cK Tryz.prog 128=some [.int .i64 0,.int .u64 0]:=by kernel_rfl
@[go_sem] theorem afx:cu Tryz.prog 9 128=some [.int,.int]:=by kernel_rfl
@[go_sem] theorem isAgg128:gN Tryz.prog 128=true:=by kernel_rfl
@[go_sem] theorem afD:bT Tryz.prog 131=some ⟨false,1⟩:=by kernel_rfl
@[go_sem] theorem agW:bO Tryz.prog 131=.slice 1 8 false:=by kernel_rfl
@[go_sem] theorem afe:bA Tryz.prog 131=some [.int .i64 0]:=by kernel_rfl
@[go_sem] theorem agu:bO Tryz.prog 147=.slice 4 32 true:=by kernel_rfl
@[go_sem] theorem aeH:bA Tryz.prog 147=some [.int .i64 0,.int .i64 0,.int .i64 0,.int .i64 0]:=by kernel_rfl
@[go_sem] theorem aeS:bT Tryz.prog 185=some ⟨false,1⟩:=by kernel_rfl
@[go_sem] theorem acm:cK Tryz.prog 185=some [.iP]:=by kernel_rfl
@[go_sem] theorem ahk:bO Tryz.prog 213=.struct [⟨0,3,true⟩,⟨3,1,false⟩]:=by kernel_rfl
@[go_sem] theorem adH:cK Tryz.prog 213=some [.int .i64 0,.int .i64 0,.int .i64 0,.int .i64 0]:=by kernel_rfl
@[go_sem] theorem agL:bO Tryz.prog 234=.slice 1 24 false:=by kernel_rfl
@[go_sem] theorem afa:bA Tryz.prog 234=some [.nil]:=by kernel_rfl
@[go_sem] theorem ahi:bO Tryz.prog 264=.slice 3 24 true:=by kernel_rfl
@[go_sem] theorem aeW:bA Tryz.prog 264=some [.int .i64 0,.int .i64 0,.int .i64 0]:=by kernel_rfl
@[go_sem] theorem ag5:bO Tryz.prog 299=.slice 3 24 true:=by kernel_rfl
@[go_sem] theorem aeJ:bA Tryz.prog 299=some [.int .i64 0,.int .i64 0,.int .i64 0]:=by kernel_rfl
@[go_sem] theorem afX:bO Tryz.prog 307=.struct [⟨0,1,false⟩,⟨1,1,false⟩,⟨2,1,false⟩]:=by kernel_rfl
@[go_sem] theorem ac0:cK Tryz.prog 307=some [.int .i64 0,.int .i64 0,.int .i64 0]:=by kernel_rfl
@[go_sem] theorem ahb:bO Tryz.prog 323=.slice 1 1 false:=by kernel_rfl
@[go_sem] theorem afm:bA Tryz.prog 323=some [.bool false]:=by kernel_rfl
end Go.Proofs.YtnkobepdbkmedaaGreat
