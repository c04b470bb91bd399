/- What the types of this seat's translation say, a closed fact each. No theorem of a claim. -/
import Derived.Test.YtccipdjjkcejgaaGreatProg
import Derived.KernelRfl
import Derived.Test.YtccipdjjkcejgaaGreatAB
namespace Go.Proofs.YtccipdjjkcejgaaGreat
open Go.Abs
theorem bD {T : Type _} {a b : T} (h : a = b := by kernel_rfl) : a = b := h
abbrev Sq := Abs.Spec Tryz.prog
noncomputable abbrev ry := gC Tryz.prog
noncomputable abbrev nF := dV Tryz.prog
noncomputable abbrev B5 := lz Tryz.prog
noncomputable abbrev Nf := eE Tryz.prog
noncomputable abbrev tiA := Gb Tryz.prog
noncomputable abbrev tvA := iZ Tryz.prog
theorem mixed:Tryz.prog.follows .mixedOrders=true:=bD
@[go_sem] theorem awv:ry 3=some ⟨false,1⟩:=bD
@[go_sem] theorem ty3:nF 3=.int .i64:=bD
@[go_sem] theorem aww:ry 4=some ⟨false,1⟩:=bD
@[go_sem] theorem ty4:nF 4=.bool:=bD
@[go_sem] theorem ty5:nF 5=.int .u8:=bD
@[go_sem] theorem awx:ry 9=some ⟨false,1⟩:=bD
@[go_sem] theorem ty9:nF 9=.str:=bD
@[go_sem] theorem avb:ry 23=some ⟨true,3⟩:=bD
@[go_sem] theorem awF:nF 23=.struct [⟨0,1,false⟩,⟨1,1,false⟩,⟨2,1,false⟩]:=bD
@[go_sem] theorem avc:ry 24=some ⟨false,1⟩:=bD
@[go_sem] theorem ap8:nF 24=.slice 3 24 true:=bD
@[go_sem] theorem aqk:Nf 24=some [.I 0,.I 0,.I 0]:=bD
@[go_sem] theorem avd:ry 25=some ⟨false,1⟩:=bD
@[go_sem] theorem ap9:nF 25=.slice 12 96 true:=bD
@[go_sem] theorem aql:Nf 25=some [.I 0,.I 0,.I 0,.I 0,.I 0,.I 0,.I 0,.I 0,.I 0,.I 0,.I 0,.I 0]:=bD
@[go_sem] theorem ave:ry 26=some ⟨false,1⟩:=bD
@[go_sem] theorem ap':nF 26=.slice 4 32 true:=bD
@[go_sem] theorem aqm:Nf 26=some [.I 0,.I 0,.I 0,.I 0]:=bD
@[go_sem] theorem avf:ry 28=some ⟨true,3⟩:=bD
@[go_sem] theorem awG:nF 28=.struct [⟨0,1,false⟩,⟨1,1,false⟩,⟨2,1,false⟩]:=bD
@[go_sem] theorem auL:B5 28=some [.nil,.nil,.nil]:=bD
@[go_sem] theorem avg:ry 29=some ⟨false,1⟩:=bD
@[go_sem] theorem aur:nF 29=.slice 7 56 true:=bD
@[go_sem] theorem awn:Nf 29=some [.I 0,.I 0,.I 0,.I 0,.I 0,.I 0,.bool false]:=bD
@[go_sem] theorem avh:ry 30=some ⟨false,1⟩:=bD
@[go_sem] theorem aus:nF 30=.slice 4 32 true:=bD
@[go_sem] theorem awo:Nf 30=some [.I 0,.I 0,.I 0,.I 0]:=bD
@[go_sem] theorem avi:ry 32=some ⟨true,3⟩:=bD
@[go_sem] theorem awH:nF 32=.struct [⟨0,1,false⟩,⟨1,1,false⟩,⟨2,1,false⟩]:=bD
@[go_sem] theorem zero32:B5 32=some [.I 0,.nil,.nil]:=bD
@[go_sem] theorem avj:ry 33=some ⟨false,1⟩:=bD
@[go_sem] theorem aut:nF 33=.slice 4 32 true:=bD
@[go_sem] theorem awp:Nf 33=some [.I 0,.I 0,.I 0,.I 0]:=bD
@[go_sem] theorem avk:ry 35=some ⟨true,2⟩:=bD
@[go_sem] theorem awI:nF 35=.struct [⟨0,1,false⟩,⟨1,1,false⟩]:=bD
@[go_sem] theorem auM:B5 35=some [.I 0,.nil]:=bD
@[go_sem] theorem avl:ry 36=some ⟨false,1⟩:=bD
@[go_sem] theorem Ej:nF 36=.slice 3 24 true:=bD
@[go_sem] theorem adI:Nf 36=some [.I 0,.I 0,.I 0]:=bD
@[go_sem] theorem avm:ry 37=some ⟨false,1⟩:=bD
@[go_sem] theorem aki:nF 37=.slice 4 32 true:=bD
@[go_sem] theorem ahA:Nf 37=some [.I 0,.I 0,.I 0,.I 0]:=bD
@[go_sem] theorem avn:ry 38=some ⟨false,1⟩:=bD
@[go_sem] theorem akj:nF 38=.slice 5 40 true:=bD
@[go_sem] theorem aqn:Nf 38=some [.I 0,.I 0,.I 0,.I 0,.I 0]:=bD
@[go_sem] theorem avo:ry 39=some ⟨false,1⟩:=bD
@[go_sem] theorem aqa:nF 39=.slice 7 88 true:=bD
@[go_sem] theorem aqo:Nf 39=some [.I 0,.I 0,.I 0,.I 0,.I 0,.nil,.nil]:=bD
@[go_sem] theorem avp:ry 41=some ⟨true,15⟩:=bD
@[go_sem] theorem awJ:nF 41=.struct [⟨0,3,true⟩,⟨3,3,true⟩,⟨6,3,true⟩,⟨9,2,true⟩,⟨11,1,false⟩,⟨12,1,false⟩,⟨13,1,false⟩,⟨14,1,false⟩]:=bD
@[go_sem] theorem auN:B5 41=some [.I 0,.I 0,.I 0,.nil,.nil,.nil,.I 0,.nil,.nil,.I 0,.nil,.nil,.nil,.nil,.nil]:=bD
@[go_sem] theorem avq:ry 44=some ⟨false,1⟩:=bD
@[go_sem] theorem akk:nF 44=.slice 3 24 true:=bD
@[go_sem] theorem aqp:Nf 44=some [.I 0,.I 0,.I 0]:=bD
@[go_sem] theorem avr:ry 45=some ⟨false,1⟩:=bD
@[go_sem] theorem awK:nF 57=.slice 17 136 true:=bD
@[go_sem] theorem awL:nF 58=.ptr:=bD
@[go_sem] theorem avs:ry 60=some ⟨false,1⟩:=bD
@[go_sem] theorem auu:nF 60=.slice 8 64 true:=bD
@[go_sem] theorem awq:Nf 60=some [.I 0,.I 0,.I 0,.I 0,.I 0,.I 0,.I 0,.I 0]:=bD
@[go_sem] theorem avt:ry 62=some ⟨true,5⟩:=bD
@[go_sem] theorem awM:nF 62=.struct [⟨0,1,false⟩,⟨1,1,false⟩,⟨2,1,false⟩,⟨3,1,false⟩,⟨4,1,false⟩]:=bD
@[go_sem] theorem auO:B5 62=some [.I 0,.I 0,.I 0,.nil,.nil]:=bD
@[go_sem] theorem avu:ry 64=some ⟨true,6⟩:=bD
@[go_sem] theorem awN:nF 64=.arr 6 1 false:=bD
@[go_sem] theorem zero64:B5 64=some [.I 0,.I 0,.I 0,.I 0,.I 0,.I 0]:=bD
@[go_sem] theorem avv:ry 66=some ⟨true,17⟩:=bD
@[go_sem] theorem awO:nF 66=.struct [⟨0,1,false⟩,⟨1,1,false⟩,⟨2,1,false⟩,⟨3,1,false⟩,⟨4,1,false⟩,⟨5,1,false⟩,⟨6,1,false⟩,⟨7,1,false⟩,⟨8,1,false⟩,⟨9,1,false⟩,⟨10,1,false⟩,⟨11,6,true⟩]:=bD
@[go_sem] theorem auP:B5 66=some [.I 0,.I 0,.I 0,.I 0,.I 0,.I 0,.I 0,.I 0,.I 0,.I 0,.I 0,.I 0,.I 0,.I 0,.I 0,.I 0,.I 0]:=bD
@[go_sem] theorem avA:tvA 9 66=some [.int,.int,.int,.int,.int,.int,.int,.int,.int,.int,.int,.int,.int,.int,.int,.int,.int]:=bD
@[go_sem] theorem isAgg66:tiA 66=true:=bD
@[go_sem] theorem awP:nF 69=.struct [⟨0,15,true⟩]:=bD
@[go_sem] theorem auQ:B5 69=some [.I 0,.I 0,.I 0,.nil,.nil,.nil,.I 0,.nil,.nil,.I 0,.nil,.nil,.nil,.nil,.nil]:=bD
@[go_sem] theorem avw:ry 75=some ⟨true,3⟩:=bD
@[go_sem] theorem awQ:nF 75=.struct [⟨0,1,false⟩,⟨1,1,false⟩,⟨2,1,false⟩]:=bD
@[go_sem] theorem auR:B5 75=some [.I 0,.I 0,.I 0]:=bD
@[go_sem] theorem avB:tvA 9 75=some [.int,.int,.int]:=bD
@[go_sem] theorem isAgg75:tiA 75=true:=bD
@[go_sem] theorem avx:ry 79=some ⟨true,2⟩:=bD
@[go_sem] theorem awR:nF 79=.struct [⟨0,1,false⟩,⟨1,1,false⟩]:=bD
@[go_sem] theorem auS:B5 79=some [.I 0,.I 0]:=bD
@[go_sem] theorem avC:tvA 9 79=some [.int,.int]:=bD
@[go_sem] theorem isAgg79:tiA 79=true:=bD
@[go_sem] theorem avy:ry 81=some ⟨true,4⟩:=bD
@[go_sem] theorem awS:nF 81=.struct [⟨0,2,true⟩,⟨2,1,false⟩,⟨3,1,false⟩]:=bD
@[go_sem] theorem auT:B5 81=some [.I 0,.I 0,.I 0,.I 0]:=bD
@[go_sem] theorem aqc:nF 84=.slice 1 8 false:=bD
@[go_sem] theorem aqq:Nf 84=some [.I 0]:=bD
@[go_sem] theorem awT:nF 85=.int .u64:=bD
@[go_sem] theorem awU:nF 87=.slice 3 24 true:=bD
@[go_sem] theorem awr:Nf 87=some [.I 0,.I 0,.I 0]:=bD
@[go_sem] theorem atH:ry 105=some ⟨true,7⟩:=bD
@[go_sem] theorem avV:nF 105=.struct [⟨0,1,false⟩,⟨1,1,false⟩,⟨2,5,true⟩]:=bD
@[go_sem] theorem asA:B5 105=some [.I 0,.I 0,.I 0,.I 0,.I 0,.nil,.nil]:=bD
@[go_sem] theorem ap7:nF 112=.slice 4 32 true:=bD
@[go_sem] theorem auE:Nf 112=some [.I 0,.I 0,.I 0,.I 0]:=bD
@[go_sem] theorem ai':ry 124=some ⟨true,3⟩:=bD
@[go_sem] theorem avW:nF 124=.struct [⟨0,1,false⟩,⟨1,1,false⟩,⟨2,1,false⟩]:=bD
@[go_sem] theorem asB:B5 124=some [.I 0,.I 0,.I 0]:=bD
@[go_sem] theorem atI:ry 132=some ⟨true,4⟩:=bD
@[go_sem] theorem avX:nF 132=.struct [⟨0,3,true⟩,⟨3,1,false⟩]:=bD
@[go_sem] theorem asC:B5 132=some [.I 0,.I 0,.I 0,.I 0]:=bD
@[go_sem] theorem atJ:ry 150=some ⟨true,3⟩:=bD
@[go_sem] theorem avY:nF 150=.struct [⟨0,1,false⟩,⟨1,1,false⟩,⟨2,1,false⟩]:=bD
@[go_sem] theorem asD:B5 150=some [.I 0,.I 0,.I 0]:=bD
@[go_sem] theorem aja:ry 152=some ⟨true,5⟩:=bD
@[go_sem] theorem avZ:nF 152=.struct [⟨0,2,true⟩,⟨2,1,false⟩,⟨3,1,false⟩,⟨4,1,false⟩]:=bD
@[go_sem] theorem asE:B5 152=some [.I 0,.I 0,.I 0,.I 0,.I 0]:=bD
@[go_sem] theorem atK:ry 157=some ⟨true,20⟩:=bD
@[go_sem] theorem av0:nF 157=.struct [⟨0,15,true⟩,⟨15,5,true⟩]:=bD
@[go_sem] theorem asF:B5 157=some [.I 0,.I 0,.I 0,.nil,.nil,.nil,.I 0,.nil,.nil,.I 0,.nil,.nil,.nil,.nil,.nil,.I 0,.I 0,.I 0,.nil,.nil]:=bD
@[go_sem] theorem atL:ry 167=some ⟨true,7⟩:=bD
@[go_sem] theorem av1:nF 167=.struct [⟨0,1,false⟩,⟨1,1,false⟩,⟨2,1,false⟩,⟨3,1,false⟩,⟨4,1,false⟩,⟨5,1,false⟩,⟨6,1,false⟩]:=bD
@[go_sem] theorem asG:B5 167=some [.I 0,.I 0,.I 0,.I 0,.I 0,.I 0,.bool false]:=bD
@[go_sem] theorem atM:ry 169=some ⟨true,4⟩:=bD
@[go_sem] theorem av2:nF 169=.struct [⟨0,1,false⟩,⟨1,1,false⟩,⟨2,1,false⟩,⟨3,1,false⟩]:=bD
@[go_sem] theorem asH:B5 169=some [.I 0,.I 0,.I 0,.I 0]:=bD
@[go_sem] theorem atN:ry 174=some ⟨true,4⟩:=bD
@[go_sem] theorem av3:nF 174=.struct [⟨0,3,true⟩,⟨3,1,false⟩]:=bD
@[go_sem] theorem asI:B5 174=some [.I 0,.I 0,.I 0,.I 0]:=bD
@[go_sem] theorem av4:nF 179=.slice 1 16 false:=bD
@[go_sem] theorem auF:Nf 179=some [.str ⟨#[]⟩]:=bD
@[go_sem] theorem atO:ry 183=some ⟨true,12⟩:=bD
@[go_sem] theorem av5:nF 183=.struct [⟨0,1,false⟩,⟨1,1,false⟩,⟨2,1,false⟩,⟨3,1,false⟩,⟨4,1,false⟩,⟨5,1,false⟩,⟨6,6,true⟩]:=bD
@[go_sem] theorem asJ:B5 183=some [.I 0,.I 0,.I 0,.I 0,.I 0,.I 0,.I 0,.I 0,.I 0,.I 0,.I 0,.I 0]:=bD
@[go_sem] theorem atP:ry 188=some ⟨false,1⟩:=bD
@[go_sem] theorem av6:nF 188=.int .u64:=bD
@[go_sem] theorem atQ:ry 190=some ⟨true,2⟩:=bD
@[go_sem] theorem av7:nF 190=.struct [⟨0,1,false⟩,⟨1,1,false⟩]:=bD
@[go_sem] theorem asK:B5 190=some [.I 0,.int .u64 0]:=bD
@[go_sem] theorem at2:tvA 9 190=some [.int,.int]:=bD
@[go_sem] theorem isAgg190:tiA 190=true:=bD
@[go_sem] theorem ajb:ry 202=some ⟨true,4⟩:=bD
@[go_sem] theorem av8:nF 202=.struct [⟨0,3,true⟩,⟨3,1,false⟩]:=bD
@[go_sem] theorem asL:B5 202=some [.I 0,.I 0,.I 0,.I 0]:=bD
@[go_sem] theorem atS:ry 206=some ⟨true,3⟩:=bD
@[go_sem] theorem av9:nF 206=.struct [⟨0,1,false⟩,⟨1,1,false⟩,⟨2,1,false⟩]:=bD
@[go_sem] theorem asM:B5 206=some [.I 0,.I 0,.I 0]:=bD
@[go_sem] theorem av':nF 250=.arr 5 1 false:=bD
@[go_sem] theorem atT:ry 252=some ⟨true,8⟩:=bD
@[go_sem] theorem awa:nF 252=.struct [⟨0,1,false⟩,⟨1,1,false⟩,⟨2,5,true⟩,⟨7,1,false⟩]:=bD
@[go_sem] theorem asN:B5 252=some [.I 0,.I 0,.I 0,.I 0,.I 0,.I 0,.I 0,.I 0]:=bD
@[go_sem] theorem awb:nF 295=.slice 2 16 true:=bD
@[go_sem] theorem auG:Nf 295=some [.I 0,.int .u64 0]:=bD
@[go_sem] theorem awd:nF 301=.slice 13 104 true:=bD
@[go_sem] theorem auH:Nf 301=some [.I 0,.I 0,.I 0,.I 0,.I 0,.I 0,.I 0,.I 0,.I 0,.I 0,.I 0,.I 0,.I 0]:=bD
@[go_sem] theorem atU:ry 305=some ⟨true,13⟩:=bD
@[go_sem] theorem awe:nF 305=.struct [⟨0,12,true⟩,⟨12,1,false⟩]:=bD
@[go_sem] theorem asO:B5 305=some [.I 0,.I 0,.I 0,.I 0,.I 0,.I 0,.I 0,.I 0,.I 0,.I 0,.I 0,.I 0,.I 0]:=bD
@[go_sem] theorem atV:ry 314=some ⟨false,1⟩:=bD
@[go_sem] theorem asP:B5 314=some [.kP]:=bD
@[go_sem] theorem atW:ry 334=some ⟨true,3⟩:=bD
@[go_sem] theorem awf:nF 334=.arr 3 1 false:=bD
@[go_sem] theorem asQ:B5 334=some [.I 0,.I 0,.I 0]:=bD
@[go_sem] theorem awg:nF 401=.slice 3 24 true:=bD
@[go_sem] theorem auI:Nf 401=some [.I 0,.I 0,.I 0]:=bD
@[go_sem] theorem atX:ry 408=some ⟨true,3⟩:=bD
@[go_sem] theorem awh:nF 408=.struct [⟨0,1,false⟩,⟨1,1,false⟩,⟨2,1,false⟩]:=bD
@[go_sem] theorem asR:B5 408=some [.I 0,.I 0,.I 0]:=bD
@[go_sem] theorem awi:nF 421=.slice 1 24 false:=bD
@[go_sem] theorem auJ:Nf 421=some [.nil]:=bD
@[go_sem] theorem atY:ry 435=some ⟨true,2⟩:=bD
@[go_sem] theorem awj:nF 435=.struct [⟨0,1,false⟩,⟨1,1,false⟩]:=bD
@[go_sem] theorem asS:B5 435=some [.int .u64 0,.int .u64 0]:=bD
@[go_sem] theorem at3:tvA 9 435=some [.int,.int]:=bD
@[go_sem] theorem isAgg435:tiA 435=true:=bD
@[go_sem] theorem aqb:nF 437=.slice 3 24 true:=bD
@[go_sem] theorem auK:Nf 437=some [.int .u64 0,.int .u64 0,.I 0]:=bD
@[go_sem] theorem ajc:ry 441=some ⟨true,3⟩:=bD
@[go_sem] theorem awk:nF 441=.struct [⟨0,2,true⟩,⟨2,1,false⟩]:=bD
@[go_sem] theorem asT:B5 441=some [.int .u64 0,.int .u64 0,.I 0]:=bD
end Go.Proofs.YtccipdjjkcejgaaGreat
