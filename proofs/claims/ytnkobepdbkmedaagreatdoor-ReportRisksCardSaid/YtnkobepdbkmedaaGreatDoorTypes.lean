/- What the types of this seat's translation say, a closed fact each. No theorem of a claim. -/
import Derived.Test.YtnkobepdbkmedaaGreatDoorRows
import Derived.Test.YtnkobepdbkmedaaGreatDoorAbcEval2
namespace Go.Proofs.YtnkobepdbkmedaaGreatDoor
open Go.Abs
theorem mixed:Tryz.prog.follows .mixedOrders=true:=by kernel_rfl
@[go_sem] theorem alq:bX Tryz.prog 3=some ⟨false,1⟩:=by kernel_rfl
@[go_sem] theorem ty3:bR Tryz.prog 3=.int .i64:=by kernel_rfl
@[go_sem] theorem alj:bX Tryz.prog 4=some ⟨false,1⟩:=by kernel_rfl
@[go_sem] theorem ty4:bR Tryz.prog 4=.bool:=by kernel_rfl
@[go_sem] theorem ty5:bR Tryz.prog 5=.int .u8:=by kernel_rfl
@[go_sem] theorem ak7:bX Tryz.prog 9=some ⟨false,1⟩:=by kernel_rfl
@[go_sem] theorem ty9:bR Tryz.prog 9=.str:=by kernel_rfl
@[go_sem] theorem alh:bR Tryz.prog 22=.slice 17 136 true:=by kernel_rfl
@[go_sem] theorem akr:bX Tryz.prog 24=some ⟨true,3⟩:=by kernel_rfl
@[go_sem] theorem akX:bR Tryz.prog 24=.struct [⟨0,1,false⟩,⟨1,1,false⟩,⟨2,1,false⟩]:=by kernel_rfl
@[go_sem] theorem akQ:bX Tryz.prog 25=some ⟨false,1⟩:=by kernel_rfl
@[go_sem] theorem ak5:bR Tryz.prog 25=.slice 3 24 true:=by kernel_rfl
@[go_sem] theorem akm:bE Tryz.prog 25=some [.int .i64 0,.int .i64 0,.int .i64 0]:=by kernel_rfl
@[go_sem] theorem akb:bX Tryz.prog 26=some ⟨false,1⟩:=by kernel_rfl
@[go_sem] theorem alf:bR Tryz.prog 26=.slice 12 96 true:=by kernel_rfl
@[go_sem] theorem ajp:bE Tryz.prog 26=some [.int .i64 0,.int .i64 0,.int .i64 0,.int .i64 0,.int .i64 0,.int .i64 0,.int .i64 0,.int .i64 0,.int .i64 0,.int .i64 0,.int .i64 0,.int .i64 0]:=by kernel_rfl
@[go_sem] theorem akI:bX Tryz.prog 27=some ⟨false,1⟩:=by kernel_rfl
@[go_sem] theorem alb:bR Tryz.prog 27=.slice 4 32 true:=by kernel_rfl
@[go_sem] theorem akx:bE Tryz.prog 27=some [.int .i64 0,.int .i64 0,.int .i64 0,.int .i64 0]:=by kernel_rfl
@[go_sem] theorem akF:bX Tryz.prog 29=some ⟨true,3⟩:=by kernel_rfl
@[go_sem] theorem alv:bR Tryz.prog 29=.struct [⟨0,1,false⟩,⟨1,1,false⟩,⟨2,1,false⟩]:=by kernel_rfl
@[go_sem] theorem aio:cK Tryz.prog 29=some [.nil,.nil,.nil]:=by kernel_rfl
@[go_sem] theorem akg:bX Tryz.prog 30=some ⟨false,1⟩:=by kernel_rfl
@[go_sem] theorem ak2:bR Tryz.prog 30=.slice 7 56 true:=by kernel_rfl
@[go_sem] theorem ajm:bE Tryz.prog 30=some [.int .i64 0,.int .i64 0,.int .i64 0,.int .i64 0,.int .i64 0,.int .i64 0,.bool false]:=by kernel_rfl
@[go_sem] theorem akt:bX Tryz.prog 31=some ⟨false,1⟩:=by kernel_rfl
@[go_sem] theorem alk:bR Tryz.prog 31=.slice 4 32 true:=by kernel_rfl
@[go_sem] theorem akE:bE Tryz.prog 31=some [.int .i64 0,.int .i64 0,.int .i64 0,.int .i64 0]:=by kernel_rfl
@[go_sem] theorem ajx:bX Tryz.prog 33=some ⟨true,3⟩:=by kernel_rfl
@[go_sem] theorem als:bR Tryz.prog 33=.struct [⟨0,1,false⟩,⟨1,1,false⟩,⟨2,1,false⟩]:=by kernel_rfl
@[go_sem] theorem aiU:cK Tryz.prog 33=some [.int .i64 0,.nil,.nil]:=by kernel_rfl
@[go_sem] theorem akv:bX Tryz.prog 34=some ⟨false,1⟩:=by kernel_rfl
@[go_sem] theorem aln:bR Tryz.prog 34=.slice 4 32 true:=by kernel_rfl
@[go_sem] theorem akh:bE Tryz.prog 34=some [.int .i64 0,.int .i64 0,.int .i64 0,.int .i64 0]:=by kernel_rfl
@[go_sem] theorem akD:bX Tryz.prog 36=some ⟨true,2⟩:=by kernel_rfl
@[go_sem] theorem alu:bR Tryz.prog 36=.struct [⟨0,1,false⟩,⟨1,1,false⟩]:=by kernel_rfl
@[go_sem] theorem ah':cK Tryz.prog 36=some [.int .i64 0,.nil]:=by kernel_rfl
@[go_sem] theorem aj9:bX Tryz.prog 37=some ⟨false,1⟩:=by kernel_rfl
@[go_sem] theorem ald:bR Tryz.prog 37=.slice 3 24 true:=by kernel_rfl
@[go_sem] theorem aj7:bE Tryz.prog 37=some [.int .i64 0,.int .i64 0,.int .i64 0]:=by kernel_rfl
@[go_sem] theorem ajC:bX Tryz.prog 38=some ⟨false,1⟩:=by kernel_rfl
@[go_sem] theorem alC:bR Tryz.prog 38=.slice 4 32 true:=by kernel_rfl
@[go_sem] theorem ajK:bE Tryz.prog 38=some [.int .i64 0,.int .i64 0,.int .i64 0,.int .i64 0]:=by kernel_rfl
@[go_sem] theorem ajz:bX Tryz.prog 39=some ⟨false,1⟩:=by kernel_rfl
@[go_sem] theorem akV:bR Tryz.prog 39=.slice 5 40 true:=by kernel_rfl
@[go_sem] theorem ajv:bE Tryz.prog 39=some [.int .i64 0,.int .i64 0,.int .i64 0,.int .i64 0,.int .i64 0]:=by kernel_rfl
@[go_sem] theorem akk:bX Tryz.prog 40=some ⟨false,1⟩:=by kernel_rfl
@[go_sem] theorem akZ:bR Tryz.prog 40=.slice 7 88 true:=by kernel_rfl
@[go_sem] theorem ajW:bE Tryz.prog 40=some [.int .i64 0,.int .i64 0,.int .i64 0,.int .i64 0,.int .i64 0,.nil,.nil]:=by kernel_rfl
@[go_sem] theorem ajq:bX Tryz.prog 42=some ⟨true,15⟩:=by kernel_rfl
@[go_sem] theorem alA:bR Tryz.prog 42=.struct [⟨0,3,true⟩,⟨3,3,true⟩,⟨6,3,true⟩,⟨9,2,true⟩,⟨11,1,false⟩,⟨12,1,false⟩,⟨13,1,false⟩,⟨14,1,false⟩]:=by kernel_rfl
@[go_sem] theorem ah3:cK Tryz.prog 42=some [.int .i64 0,.int .i64 0,.int .i64 0,.nil,.nil,.nil,.int .i64 0,.nil,.nil,.int .i64 0,.nil,.nil,.nil,.nil,.nil]:=by kernel_rfl
@[go_sem] theorem ak1:bR Tryz.prog 44=.slice 1 16 false:=by kernel_rfl
@[go_sem] theorem akB:bE Tryz.prog 44=some [.str ⟨#[]⟩]:=by kernel_rfl
@[go_sem] theorem ajX:bX Tryz.prog 45=some ⟨false,1⟩:=by kernel_rfl
@[go_sem] theorem aki:bX Tryz.prog 49=some ⟨true,3⟩:=by kernel_rfl
@[go_sem] theorem ala:bR Tryz.prog 49=.struct [⟨0,1,false⟩,⟨1,1,false⟩,⟨2,1,false⟩]:=by kernel_rfl
@[go_sem] theorem ahU:cK Tryz.prog 49=some [.int .i64 0,.int .i64 0,.int .i64 0]:=by kernel_rfl
@[go_sem] theorem akS:bX Tryz.prog 53=some ⟨true,2⟩:=by kernel_rfl
@[go_sem] theorem akY:bR Tryz.prog 53=.struct [⟨0,1,false⟩,⟨1,1,false⟩]:=by kernel_rfl
@[go_sem] theorem ahY:cK Tryz.prog 53=some [.int .i64 0,.int .i64 0]:=by kernel_rfl
@[go_sem] theorem ajs:bX Tryz.prog 55=some ⟨true,4⟩:=by kernel_rfl
@[go_sem] theorem ak':bR Tryz.prog 55=.struct [⟨0,2,true⟩,⟨2,1,false⟩,⟨3,1,false⟩]:=by kernel_rfl
@[go_sem] theorem aiv:cK Tryz.prog 55=some [.int .i64 0,.int .i64 0,.int .i64 0,.int .i64 0]:=by kernel_rfl
@[go_sem] theorem akn:bX Tryz.prog 57=some ⟨true,3⟩:=by kernel_rfl
@[go_sem] theorem alB:bR Tryz.prog 57=.struct [⟨0,1,false⟩,⟨1,1,false⟩,⟨2,1,false⟩]:=by kernel_rfl
@[go_sem] theorem aiZ:cK Tryz.prog 57=some [.int .i64 0,.int .i64 0,.int .i64 0]:=by kernel_rfl
@[go_sem] theorem akl:bX Tryz.prog 59=some ⟨true,3⟩:=by kernel_rfl
@[go_sem] theorem ak6:bR Tryz.prog 59=.struct [⟨0,1,false⟩,⟨1,1,false⟩,⟨2,1,false⟩]:=by kernel_rfl
@[go_sem] theorem ah5:cK Tryz.prog 59=some [.int .i64 0,.int .i64 0,.int .i64 0]:=by kernel_rfl
@[go_sem] theorem ajZ:bX Tryz.prog 61=some ⟨true,4⟩:=by kernel_rfl
@[go_sem] theorem alz:bR Tryz.prog 61=.struct [⟨0,3,true⟩,⟨3,1,false⟩]:=by kernel_rfl
@[go_sem] theorem aiW:cK Tryz.prog 61=some [.int .i64 0,.int .i64 0,.int .i64 0,.int .i64 0]:=by kernel_rfl
@[go_sem] theorem akz:bX Tryz.prog 65=some ⟨true,3⟩:=by kernel_rfl
@[go_sem] theorem alm:bR Tryz.prog 65=.struct [⟨0,1,false⟩,⟨1,1,false⟩,⟨2,1,false⟩]:=by kernel_rfl
@[go_sem] theorem ahX:cK Tryz.prog 65=some [.int .i64 0,.int .i64 0,.int .i64 0]:=by kernel_rfl
@[go_sem] theorem aky:gy Tryz.prog 9 65=some [.int,.int,.int]:=by kernel_rfl
@[go_sem] theorem isAgg65:og Tryz.prog 65=true:=by kernel_rfl
@[go_sem] theorem ajA:bX Tryz.prog 71=some ⟨true,4⟩:=by kernel_rfl
@[go_sem] theorem alc:bR Tryz.prog 71=.struct [⟨0,3,true⟩,⟨3,1,false⟩]:=by kernel_rfl
@[go_sem] theorem ah4:cK Tryz.prog 71=some [.int .i64 0,.int .i64 0,.int .i64 0,.int .i64 0]:=by kernel_rfl
@[go_sem] theorem aly:bR Tryz.prog 74=.arr 3 1 false:=by kernel_rfl
@[go_sem] theorem aiX:cK Tryz.prog 74=some [.int .i64 0,.int .i64 0,.int .i64 0]:=by kernel_rfl
@[go_sem] theorem alE:bR Tryz.prog 83=.arr 9 1 false:=by kernel_rfl
@[go_sem] theorem ahN:cK Tryz.prog 83=some [.int .i64 0,.int .i64 0,.int .i64 0,.int .i64 0,.int .i64 0,.int .i64 0,.int .i64 0,.int .i64 0,.int .i64 0]:=by kernel_rfl
@[go_sem] theorem ajS:bX Tryz.prog 84=some ⟨true,6⟩:=by kernel_rfl
@[go_sem] theorem ali:bR Tryz.prog 84=.arr 6 1 false:=by kernel_rfl
@[go_sem] theorem ah6:cK Tryz.prog 84=some [.int .i64 0,.int .i64 0,.int .i64 0,.int .i64 0,.int .i64 0,.int .i64 0]:=by kernel_rfl
@[go_sem] theorem ajJ:bX Tryz.prog 86=some ⟨true,17⟩:=by kernel_rfl
@[go_sem] theorem alr:bR Tryz.prog 86=.struct [⟨0,1,false⟩,⟨1,1,false⟩,⟨2,1,false⟩,⟨3,1,false⟩,⟨4,1,false⟩,⟨5,1,false⟩,⟨6,1,false⟩,⟨7,1,false⟩,⟨8,1,false⟩,⟨9,1,false⟩,⟨10,1,false⟩,⟨11,6,true⟩]:=by kernel_rfl
@[go_sem] theorem aiE:cK Tryz.prog 86=some [.int .i64 0,.int .i64 0,.int .i64 0,.int .i64 0,.int .i64 0,.int .i64 0,.int .i64 0,.int .i64 0,.int .i64 0,.int .i64 0,.int .i64 0,.int .i64 0,.int .i64 0,.int .i64 0,.int .i64 0,.int .i64 0,.int .i64 0]:=by kernel_rfl
@[go_sem] theorem alD:bR Tryz.prog 87=.int .u64:=by kernel_rfl
@[go_sem] theorem aj3:bX Tryz.prog 88=some ⟨false,1⟩:=by kernel_rfl
@[go_sem] theorem ak4:bR Tryz.prog 88=.slice 3 24 true:=by kernel_rfl
@[go_sem] theorem ajT:bE Tryz.prog 88=some [.int .i64 0,.int .i64 0,.int .i64 0]:=by kernel_rfl
@[go_sem] theorem aj6:bX Tryz.prog 89=some ⟨false,1⟩:=by kernel_rfl
@[go_sem] theorem akT:bR Tryz.prog 89=.slice 8 64 true:=by kernel_rfl
@[go_sem] theorem ake:bE Tryz.prog 89=some [.int .i64 0,.int .i64 0,.int .i64 0,.int .i64 0,.int .i64 0,.int .i64 0,.int .i64 0,.int .i64 0]:=by kernel_rfl
@[go_sem] theorem akR:bX Tryz.prog 91=some ⟨true,5⟩:=by kernel_rfl
@[go_sem] theorem ak9:bR Tryz.prog 91=.struct [⟨0,1,false⟩,⟨1,1,false⟩,⟨2,1,false⟩,⟨3,1,false⟩,⟨4,1,false⟩]:=by kernel_rfl
@[go_sem] theorem ain:cK Tryz.prog 91=some [.int .i64 0,.int .i64 0,.int .i64 0,.nil,.nil]:=by kernel_rfl
@[go_sem] theorem ajy:bX Tryz.prog 97=some ⟨false,1⟩:=by kernel_rfl
@[go_sem] theorem alw:bR Tryz.prog 97=.slice 1 8 false:=by kernel_rfl
@[go_sem] theorem akP:bE Tryz.prog 97=some [.int .i64 0]:=by kernel_rfl
@[go_sem] theorem aj':bR Tryz.prog 106=.slice 3 24 true:=by kernel_rfl
@[go_sem] theorem ahK:bE Tryz.prog 106=some [.int .i64 0,.int .i64 0,.int .i64 0]:=by kernel_rfl
@[go_sem] theorem ahR:bX Tryz.prog 115=some ⟨false,1⟩:=by kernel_rfl
@[go_sem] theorem akN:bR Tryz.prog 115=.int .u64:=by kernel_rfl
@[go_sem] theorem ai7:bX Tryz.prog 117=some ⟨true,2⟩:=by kernel_rfl
@[go_sem] theorem ajQ:bR Tryz.prog 117=.struct [⟨0,1,false⟩,⟨1,1,false⟩]:=by kernel_rfl
@[go_sem] theorem ahp:cK Tryz.prog 117=some [.int .i64 0,.int .u64 0]:=by kernel_rfl
@[go_sem] theorem aiR:gy Tryz.prog 9 117=some [.int,.int]:=by kernel_rfl
@[go_sem] theorem isAgg117:og Tryz.prog 117=true:=by kernel_rfl
@[go_sem] theorem akw:bR Tryz.prog 119=.slice 2 16 true:=by kernel_rfl
@[go_sem] theorem ah1:bE Tryz.prog 119=some [.int .i64 0,.int .u64 0]:=by kernel_rfl
@[go_sem] theorem ajh:bX Tryz.prog 121=some ⟨true,12⟩:=by kernel_rfl
@[go_sem] theorem akj:bR Tryz.prog 121=.struct [⟨0,1,false⟩,⟨1,1,false⟩,⟨2,1,false⟩,⟨3,1,false⟩,⟨4,1,false⟩,⟨5,1,false⟩,⟨6,6,true⟩]:=by kernel_rfl
@[go_sem] theorem agz:cK Tryz.prog 121=some [.int .i64 0,.int .i64 0,.int .i64 0,.int .i64 0,.int .i64 0,.int .i64 0,.int .i64 0,.int .i64 0,.int .i64 0,.int .i64 0,.int .i64 0,.int .i64 0]:=by kernel_rfl
@[go_sem] theorem ahH:bX Tryz.prog 136=some ⟨true,7⟩:=by kernel_rfl
@[go_sem] theorem ajH:bR Tryz.prog 136=.struct [⟨0,1,false⟩,⟨1,1,false⟩,⟨2,5,true⟩]:=by kernel_rfl
@[go_sem] theorem afY:cK Tryz.prog 136=some [.int .i64 0,.int .i64 0,.int .i64 0,.int .i64 0,.int .i64 0,.nil,.nil]:=by kernel_rfl
@[go_sem] theorem aiS:bX Tryz.prog 154=some ⟨true,5⟩:=by kernel_rfl
@[go_sem] theorem akp:bR Tryz.prog 154=.struct [⟨0,2,true⟩,⟨2,1,false⟩,⟨3,1,false⟩,⟨4,1,false⟩]:=by kernel_rfl
@[go_sem] theorem agJ:cK Tryz.prog 154=some [.int .i64 0,.int .i64 0,.int .i64 0,.int .i64 0,.int .i64 0]:=by kernel_rfl
@[go_sem] theorem akd:bR Tryz.prog 157=.slice 13 104 true:=by kernel_rfl
@[go_sem] theorem aiH:bE Tryz.prog 157=some [.int .i64 0,.int .i64 0,.int .i64 0,.int .i64 0,.int .i64 0,.int .i64 0,.int .i64 0,.int .i64 0,.int .i64 0,.int .i64 0,.int .i64 0,.int .i64 0,.int .i64 0]:=by kernel_rfl
@[go_sem] theorem ah7:bX Tryz.prog 161=some ⟨true,13⟩:=by kernel_rfl
@[go_sem] theorem ajG:bR Tryz.prog 161=.struct [⟨0,12,true⟩,⟨12,1,false⟩]:=by kernel_rfl
@[go_sem] theorem ahF:cK Tryz.prog 161=some [.int .i64 0,.int .i64 0,.int .i64 0,.int .i64 0,.int .i64 0,.int .i64 0,.int .i64 0,.int .i64 0,.int .i64 0,.int .i64 0,.int .i64 0,.int .i64 0,.int .i64 0]:=by kernel_rfl
@[go_sem] theorem aii:bX Tryz.prog 166=some ⟨true,4⟩:=by kernel_rfl
@[go_sem] theorem ajD:bR Tryz.prog 166=.struct [⟨0,1,false⟩,⟨1,1,false⟩,⟨2,1,false⟩,⟨3,1,false⟩]:=by kernel_rfl
@[go_sem] theorem aga:cK Tryz.prog 166=some [.int .i64 0,.int .i64 0,.int .i64 0,.int .i64 0]:=by kernel_rfl
@[go_sem] theorem ajg:bX Tryz.prog 190=some ⟨true,7⟩:=by kernel_rfl
@[go_sem] theorem ajM:bR Tryz.prog 190=.struct [⟨0,1,false⟩,⟨1,1,false⟩,⟨2,1,false⟩,⟨3,1,false⟩,⟨4,1,false⟩,⟨5,1,false⟩,⟨6,1,false⟩]:=by kernel_rfl
@[go_sem] theorem ahd:cK Tryz.prog 190=some [.int .i64 0,.int .i64 0,.int .i64 0,.int .i64 0,.int .i64 0,.int .i64 0,.bool false]:=by kernel_rfl
@[go_sem] theorem ajo:bR Tryz.prog 201=.slice 4 32 true:=by kernel_rfl
@[go_sem] theorem aiO:bE Tryz.prog 201=some [.int .i64 0,.int .i64 0,.int .i64 0,.int .i64 0]:=by kernel_rfl
@[go_sem] theorem isAgg218:og Tryz.prog 218=true:=by kernel_rfl
@[go_sem] theorem akK:bR Tryz.prog 223=.arr 7 1 false:=by kernel_rfl
@[go_sem] theorem aht:cK Tryz.prog 223=some [.str ⟨#[]⟩,.str ⟨#[]⟩,.str ⟨#[]⟩,.str ⟨#[]⟩,.str ⟨#[]⟩,.str ⟨#[]⟩,.str ⟨#[]⟩]:=by kernel_rfl
@[go_sem] theorem ah0:bX Tryz.prog 245=some ⟨false,1⟩:=by kernel_rfl
@[go_sem] theorem af5:cK Tryz.prog 245=some [.jm]:=by kernel_rfl
@[go_sem] theorem aju:bR Tryz.prog 267=.struct [⟨0,3,true⟩,⟨3,1,false⟩]:=by kernel_rfl
@[go_sem] theorem ahA:cK Tryz.prog 267=some [.int .i64 0,.int .i64 0,.int .i64 0,.int .i64 0]:=by kernel_rfl
@[go_sem] theorem akG:bR Tryz.prog 287=.slice 1 24 false:=by kernel_rfl
@[go_sem] theorem aij:bE Tryz.prog 287=some [.nil]:=by kernel_rfl
@[go_sem] theorem akL:bR Tryz.prog 290=.arr 5 1 false:=by kernel_rfl
@[go_sem] theorem aiD:bX Tryz.prog 292=some ⟨true,8⟩:=by kernel_rfl
@[go_sem] theorem akc:bR Tryz.prog 292=.struct [⟨0,1,false⟩,⟨1,1,false⟩,⟨2,5,true⟩,⟨7,1,false⟩]:=by kernel_rfl
@[go_sem] theorem agu:cK Tryz.prog 292=some [.int .i64 0,.int .i64 0,.int .i64 0,.int .i64 0,.int .i64 0,.int .i64 0,.int .i64 0,.int .i64 0]:=by kernel_rfl
@[go_sem] theorem isAgg300:og Tryz.prog 300=true:=by kernel_rfl
@[go_sem] theorem isAgg350:og Tryz.prog 350=true:=by kernel_rfl
@[go_sem] theorem aku:bR Tryz.prog 353=.slice 3 24 true:=by kernel_rfl
@[go_sem] theorem ai1:bE Tryz.prog 353=some [.int .i64 0,.int .i64 0,.int .i64 0]:=by kernel_rfl
@[go_sem] theorem ako:bR Tryz.prog 361=.struct [⟨0,1,false⟩,⟨1,1,false⟩,⟨2,1,false⟩]:=by kernel_rfl
@[go_sem] theorem agZ:cK Tryz.prog 361=some [.int .i64 0,.int .i64 0,.int .i64 0]:=by kernel_rfl
@[go_sem] theorem isAgg366:og Tryz.prog 366=true:=by kernel_rfl
@[go_sem] theorem akf:bR Tryz.prog 376=.slice 1 1 false:=by kernel_rfl
@[go_sem] theorem aji:bE Tryz.prog 376=some [.bool false]:=by kernel_rfl
end Go.Proofs.YtnkobepdbkmedaaGreatDoor
