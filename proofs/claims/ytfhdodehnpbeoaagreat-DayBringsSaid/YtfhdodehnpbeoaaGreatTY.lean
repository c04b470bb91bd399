/- What the types of this seat's translation say, a closed fact each; no theorem of a claim. -/
import Derived.Test.YtfhdodehnpbeoaaGreatProg
import Derived.KernelRfl
import Derived.Test.YtfhdodehnpbeoaaGreatAB
namespace Go.Proofs.YtfhdodehnpbeoaaGreat
open Go.Abs
theorem cY{T:Type _}{a b:T}(h:a=b:=by kernel_rfl):a=b:=h
abbrev Sq:=Abs.Spec Tryz.prog
noncomputable abbrev va:=jx Tryz.prog
noncomputable abbrev qR:=fD Tryz.prog
noncomputable abbrev Ec:=oI Tryz.prog
noncomputable abbrev Ma:=gr Tryz.prog
noncomputable abbrev tiA:=Gp Tryz.prog
noncomputable abbrev tvA:=lW Tryz.prog
theorem mixed:Tryz.prog.follows .mixedOrders=true:=cY
theorem awQ:va 3=some ⟨false,1⟩:=cY
theorem ty3:qR 3=.int .i64:=cY
theorem awR:va 4=some ⟨false,1⟩:=cY
theorem ty4:qR 4=.bool:=cY
theorem ty5:qR 5=.int .u8:=cY
theorem awS:va 9=some ⟨false,1⟩:=cY
theorem ty9:qR 9=.str:=cY
theorem aw0:qR 22=.slice 17 136 true:=cY
theorem avr:va 24=some ⟨true,3⟩:=cY
theorem aw1:qR 24=.struct [⟨0,1,false⟩,⟨1,1,false⟩,⟨2,1,false⟩]:=cY
theorem avs:va 25=some ⟨false,1⟩:=cY
theorem auC:qR 25=.slice 3 24 true:=cY
theorem awE:Ma 25=some [.I 0,.I 0,.I 0]:=cY
theorem avt:va 26=some ⟨false,1⟩:=cY
theorem auD:qR 26=.slice 12 96 true:=cY
theorem awF:Ma 26=some [.I 0,.I 0,.I 0,.I 0,.I 0,.I 0,.I 0,.I 0,.I 0,.I 0,.I 0,.I 0]:=cY
theorem avu:va 27=some ⟨false,1⟩:=cY
theorem auE:qR 27=.slice 4 32 true:=cY
theorem awG:Ma 27=some [.I 0,.I 0,.I 0,.I 0]:=cY
theorem avv:va 29=some ⟨true,3⟩:=cY
theorem aw2:qR 29=.struct [⟨0,1,false⟩,⟨1,1,false⟩,⟨2,1,false⟩]:=cY
theorem auZ:Ec 29=some [.nil,.nil,.nil]:=cY
theorem avw:va 30=some ⟨false,1⟩:=cY
theorem auF:qR 30=.slice 7 56 true:=cY
theorem awH:Ma 30=some [.I 0,.I 0,.I 0,.I 0,.I 0,.I 0,.bool false]:=cY
theorem avx:va 31=some ⟨false,1⟩:=cY
theorem auG:qR 31=.slice 4 32 true:=cY
theorem awI:Ma 31=some [.I 0,.I 0,.I 0,.I 0]:=cY
theorem avy:va 33=some ⟨true,3⟩:=cY
theorem aw4:qR 33=.struct [⟨0,1,false⟩,⟨1,1,false⟩,⟨2,1,false⟩]:=cY
theorem au0:Ec 33=some [.I 0,.nil,.nil]:=cY
theorem avz:va 34=some ⟨false,1⟩:=cY
theorem auH:qR 34=.slice 4 32 true:=cY
theorem awJ:Ma 34=some [.I 0,.I 0,.I 0,.I 0]:=cY
theorem avA:va 36=some ⟨true,2⟩:=cY
theorem aw5:qR 36=.struct [⟨0,1,false⟩,⟨1,1,false⟩]:=cY
theorem au1:Ec 36=some [.I 0,.nil]:=cY
theorem avB:va 37=some ⟨false,1⟩:=cY
theorem aqq:qR 37=.slice 3 24 true:=cY
theorem aqA:Ma 37=some [.I 0,.I 0,.I 0]:=cY
theorem avC:va 38=some ⟨false,1⟩:=cY
theorem akH:qR 38=.slice 4 32 true:=cY
theorem ahQ:Ma 38=some [.I 0,.I 0,.I 0,.I 0]:=cY
theorem avD:va 39=some ⟨false,1⟩:=cY
theorem akI:qR 39=.slice 5 40 true:=cY
theorem aqB:Ma 39=some [.I 0,.I 0,.I 0,.I 0,.I 0]:=cY
theorem avE:va 40=some ⟨false,1⟩:=cY
theorem aw6:qR 40=.slice 7 88 true:=cY
theorem awK:Ma 40=some [.I 0,.I 0,.I 0,.I 0,.I 0,.nil,.nil]:=cY
theorem avF:va 42=some ⟨true,15⟩:=cY
theorem aw7:qR 42=.struct [⟨0,3,true⟩,⟨3,3,true⟩,⟨6,3,true⟩,⟨9,2,true⟩,⟨11,1,false⟩,⟨12,1,false⟩,⟨13,1,false⟩,⟨14,1,false⟩]:=cY
theorem au2:Ec 42=some [.I 0,.I 0,.I 0,.nil,.nil,.nil,.I 0,.nil,.nil,.I 0,.nil,.nil,.nil,.nil,.nil]:=cY
theorem avG:va 44=some ⟨false,1⟩:=cY
theorem akJ:qR 44=.slice 3 24 true:=cY
theorem aqC:Ma 44=some [.I 0,.I 0,.I 0]:=cY
theorem avH:va 45=some ⟨false,1⟩:=cY
theorem avI:va 49=some ⟨false,1⟩:=cY
theorem aqs:qR 49=.slice 1 8 false:=cY
theorem aqD:Ma 49=some [.I 0]:=cY
theorem avJ:va 50=some ⟨true,6⟩:=cY
theorem aw8:qR 50=.arr 6 1 false:=cY
theorem au3:Ec 50=some [.I 0,.I 0,.I 0,.I 0,.I 0,.I 0]:=cY
theorem avL:va 52=some ⟨true,12⟩:=cY
theorem aw9:qR 52=.struct [⟨0,1,false⟩,⟨1,1,false⟩,⟨2,1,false⟩,⟨3,1,false⟩,⟨4,1,false⟩,⟨5,1,false⟩,⟨6,6,true⟩]:=cY
theorem au4:Ec 52=some [.I 0,.I 0,.I 0,.I 0,.I 0,.I 0,.I 0,.I 0,.I 0,.I 0,.I 0,.I 0]:=cY
theorem avM:va 56=some ⟨true,2⟩:=cY
theorem aw':qR 56=.struct [⟨0,1,false⟩,⟨1,1,false⟩]:=cY
theorem au5:Ec 56=some [.I 0,.I 0]:=cY
theorem avT:tvA 9 56=some [.int,.int]:=cY
theorem isAgg56:tiA 56=true:=cY
theorem avN:va 58=some ⟨true,4⟩:=cY
theorem axa:qR 58=.struct [⟨0,2,true⟩,⟨2,1,false⟩,⟨3,1,false⟩]:=cY
theorem au6:Ec 58=some [.I 0,.I 0,.I 0,.I 0]:=cY
theorem ao0:va 63=some ⟨true,3⟩:=cY
theorem axb:qR 63=.struct [⟨0,1,false⟩,⟨1,1,false⟩,⟨2,1,false⟩]:=cY
theorem au7:Ec 63=some [.I 0,.I 0,.I 0]:=cY
theorem avO:va 65=some ⟨true,3⟩:=cY
theorem axc:qR 65=.struct [⟨0,1,false⟩,⟨1,1,false⟩,⟨2,1,false⟩]:=cY
theorem au8:Ec 65=some [.I 0,.I 0,.I 0]:=cY
theorem avU:tvA 9 65=some [.int,.int,.int]:=cY
theorem isAgg65:tiA 65=true:=cY
theorem avP:va 70=some ⟨true,3⟩:=cY
theorem axd:qR 70=.struct [⟨0,1,false⟩,⟨1,1,false⟩,⟨2,1,false⟩]:=cY
theorem au9:Ec 70=some [.I 0,.I 0,.I 0]:=cY
theorem avQ:va 77=some ⟨true,4⟩:=cY
theorem axe:qR 77=.struct [⟨0,3,true⟩,⟨3,1,false⟩]:=cY
theorem au':Ec 77=some [.I 0,.I 0,.I 0,.I 0]:=cY
theorem auI:qR 88=.slice 4 32 true:=cY
theorem awL:Ma 88=some [.I 0,.I 0,.I 0,.I 0]:=cY
theorem avR:va 94=some ⟨false,1⟩:=cY
theorem auJ:qR 94=.slice 8 64 true:=cY
theorem awM:Ma 94=some [.I 0,.I 0,.I 0,.I 0,.I 0,.I 0,.I 0,.I 0]:=cY
theorem atT:va 100=some ⟨true,3⟩:=cY
theorem awa:qR 100=.struct [⟨0,1,false⟩,⟨1,1,false⟩,⟨2,1,false⟩]:=cY
theorem asM:Ec 100=some [.I 0,.I 0,.I 0]:=cY
theorem ajy:va 102=some ⟨true,5⟩:=cY
theorem awb:qR 102=.struct [⟨0,2,true⟩,⟨2,1,false⟩,⟨3,1,false⟩,⟨4,1,false⟩]:=cY
theorem asN:Ec 102=some [.I 0,.I 0,.I 0,.I 0,.I 0]:=cY
theorem awc:qR 109=.arr 5 1 false:=cY
theorem atU:va 111=some ⟨true,8⟩:=cY
theorem awd:qR 111=.struct [⟨0,1,false⟩,⟨1,1,false⟩,⟨2,5,true⟩,⟨7,1,false⟩]:=cY
theorem asO:Ec 111=some [.I 0,.I 0,.I 0,.I 0,.I 0,.I 0,.I 0,.I 0]:=cY
theorem awe:qR 116=.arr 9 1 false:=cY
theorem asP:Ec 116=some [.I 0,.I 0,.I 0,.I 0,.I 0,.I 0,.I 0,.I 0,.I 0]:=cY
theorem atV:va 118=some ⟨true,17⟩:=cY
theorem awf:qR 118=.struct [⟨0,1,false⟩,⟨1,1,false⟩,⟨2,1,false⟩,⟨3,1,false⟩,⟨4,1,false⟩,⟨5,1,false⟩,⟨6,1,false⟩,⟨7,1,false⟩,⟨8,1,false⟩,⟨9,1,false⟩,⟨10,1,false⟩,⟨11,6,true⟩]:=cY
theorem asQ:Ec 118=some [.I 0,.I 0,.I 0,.I 0,.I 0,.I 0,.I 0,.I 0,.I 0,.I 0,.I 0,.I 0,.I 0,.I 0,.I 0,.I 0,.I 0]:=cY
theorem awg:qR 119=.int .u64:=cY
theorem atW:va 121=some ⟨true,5⟩:=cY
theorem awh:qR 121=.struct [⟨0,1,false⟩,⟨1,1,false⟩,⟨2,1,false⟩,⟨3,1,false⟩,⟨4,1,false⟩]:=cY
theorem asR:Ec 121=some [.I 0,.I 0,.I 0,.nil,.nil]:=cY
theorem atX:va 133=some ⟨false,1⟩:=cY
theorem awi:qR 133=.int .u64:=cY
theorem atY:va 135=some ⟨true,2⟩:=cY
theorem awj:qR 135=.struct [⟨0,1,false⟩,⟨1,1,false⟩]:=cY
theorem asS:Ec 135=some [.I 0,.int .u64 0]:=cY
theorem aua:tvA 9 135=some [.int,.int]:=cY
theorem isAgg135:tiA 135=true:=cY
theorem awk:qR 140=.slice 2 16 true:=cY
theorem auQ:Ma 140=some [.I 0,.int .u64 0]:=cY
theorem atZ:va 144=some ⟨true,4⟩:=cY
theorem awl:qR 144=.struct [⟨0,3,true⟩,⟨3,1,false⟩]:=cY
theorem asT:Ec 144=some [.I 0,.I 0,.I 0,.I 0]:=cY
theorem at0:va 154=some ⟨true,7⟩:=cY
theorem awm:qR 154=.struct [⟨0,1,false⟩,⟨1,1,false⟩,⟨2,1,false⟩,⟨3,1,false⟩,⟨4,1,false⟩,⟨5,1,false⟩,⟨6,1,false⟩]:=cY
theorem asU:Ec 154=some [.I 0,.I 0,.I 0,.I 0,.I 0,.I 0,.bool false]:=cY
theorem at1:va 156=some ⟨true,4⟩:=cY
theorem awn:qR 156=.struct [⟨0,1,false⟩,⟨1,1,false⟩,⟨2,1,false⟩,⟨3,1,false⟩]:=cY
theorem asV:Ec 156=some [.I 0,.I 0,.I 0,.I 0]:=cY
theorem awo:qR 168=.slice 3 24 true:=cY
theorem auR:Ma 168=some [.I 0,.I 0,.I 0]:=cY
theorem ajz:va 171=some ⟨true,4⟩:=cY
theorem awp:qR 171=.struct [⟨0,3,true⟩,⟨3,1,false⟩]:=cY
theorem asW:Ec 171=some [.I 0,.I 0,.I 0,.I 0]:=cY
theorem at2:va 181=some ⟨true,3⟩:=cY
theorem awq:qR 181=.arr 3 1 false:=cY
theorem asX:Ec 181=some [.I 0,.I 0,.I 0]:=cY
theorem at3:va 196=some ⟨true,7⟩:=cY
theorem awr:qR 196=.struct [⟨0,1,false⟩,⟨1,1,false⟩,⟨2,5,true⟩]:=cY
theorem asY:Ec 196=some [.I 0,.I 0,.I 0,.I 0,.I 0,.nil,.nil]:=cY
theorem at4:va 276=some ⟨false,1⟩:=cY
theorem asZ:Ec 276=some [.ot]:=cY
theorem aws:qR 283=.slice 3 24 true:=cY
theorem auS:Ma 283=some [.I 0,.I 0,.I 0]:=cY
theorem at5:va 290=some ⟨true,3⟩:=cY
theorem awt:qR 290=.struct [⟨0,1,false⟩,⟨1,1,false⟩,⟨2,1,false⟩]:=cY
theorem as0:Ec 290=some [.I 0,.I 0,.I 0]:=cY
theorem awu:qR 316=.slice 13 104 true:=cY
theorem auT:Ma 316=some [.I 0,.I 0,.I 0,.I 0,.I 0,.I 0,.I 0,.I 0,.I 0,.I 0,.I 0,.I 0,.I 0]:=cY
theorem at6:va 320=some ⟨true,13⟩:=cY
theorem awv:qR 320=.struct [⟨0,12,true⟩,⟨12,1,false⟩]:=cY
theorem as1:Ec 320=some [.I 0,.I 0,.I 0,.I 0,.I 0,.I 0,.I 0,.I 0,.I 0,.I 0,.I 0,.I 0,.I 0]:=cY
theorem aww:qR 358=.slice 1 24 false:=cY
theorem auU:Ma 358=some [.nil]:=cY
theorem at7:va 375=some ⟨true,2⟩:=cY
theorem awx:qR 375=.struct [⟨0,1,false⟩,⟨1,1,false⟩]:=cY
theorem as2:Ec 375=some [.int .u64 0,.int .u64 0]:=cY
theorem aub:tvA 9 375=some [.int,.int]:=cY
theorem isAgg375:tiA 375=true:=cY
theorem aqr:qR 377=.slice 3 24 true:=cY
theorem auV:Ma 377=some [.int .u64 0,.int .u64 0,.I 0]:=cY
theorem ajA:va 381=some ⟨true,3⟩:=cY
theorem awy:qR 381=.struct [⟨0,2,true⟩,⟨2,1,false⟩]:=cY
theorem as3:Ec 381=some [.int .u64 0,.int .u64 0,.I 0]:=cY
theorem awz:qR 385=.slice 1 16 false:=cY
theorem auW:Ma 385=some [.str ⟨#[]⟩]:=cY
theorem awA:qR 405=.slice 1 24 false:=cY
theorem auX:Ma 405=some [.nil]:=cY
theorem awB:qR 427=.slice 1 1 false:=cY
theorem auY:Ma 427=some [.bool false]:=cY
attribute [go_sem] awQ ty3 awR ty4 ty5 awS ty9 aw0 avr aw1 avs auC awE avt auD awF avu auE awG avv aw2 auZ avw auF awH avx auG awI avy aw4 au0 avz auH awJ avA aw5 au1 avB aqq aqA avC akH ahQ avD akI aqB avE aw6 awK avF aw7 au2 avG akJ aqC avH avI aqs aqD avJ aw8 au3 avL aw9 au4 avM aw' au5 avT isAgg56 avN axa au6 ao0 axb au7 avO axc au8 avU isAgg65 avP axd au9 avQ axe au' auI awL avR auJ awM atT awa asM ajy awb asN awc atU awd asO awe asP atV awf asQ awg atW awh asR atX awi atY awj asS aua isAgg135 awk auQ atZ awl asT at0 awm asU at1 awn asV awo auR ajz awp asW at2 awq asX at3 awr asY at4 asZ aws auS at5 awt as0 awu auT at6 awv as1 aww auU at7 awx as2 aub isAgg375 aqr auV ajA awy as3 awz auW awA auX awB auY
end Go.Proofs.YtfhdodehnpbeoaaGreat

