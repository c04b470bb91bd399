/- What the types of this seat's translation say, a closed fact each; no theorem of a claim. -/
import Derived.Test.YtpepnkihgjjpmaaGreatProg
import Derived.KernelRfl
import Derived.Test.YtpepnkihgjjpmaaGreatAB
namespace Go.Proofs.YtpepnkihgjjpmaaGreat
open Go.Abs
theorem cQ{T:Type _}{a b:T}(h:a=b:=by kernel_rfl):a=b:=h
abbrev Sq:=Abs.Spec Tryz.prog
noncomputable abbrev ur:=iF Tryz.prog
noncomputable abbrev pL:=eH Tryz.prog
noncomputable abbrev C9:=nw Tryz.prog
noncomputable abbrev Jo:=gy Tryz.prog
noncomputable abbrev tiA:=DJ Tryz.prog
noncomputable abbrev tvA:=jZ Tryz.prog
theorem mixed:Tryz.prog.follows .mixedOrders=true:=cQ
theorem ar7:ur 3=some ⟨false,1⟩:=cQ
theorem ty3:pL 3=.int .i64:=cQ
theorem ar8:ur 4=some ⟨false,1⟩:=cQ
theorem ty4:pL 4=.bool:=cQ
theorem ty5:pL 5=.int .u8:=cQ
theorem ar9:ur 9=some ⟨false,1⟩:=cQ
theorem ty9:pL 9=.str:=cQ
theorem asg:pL 22=.slice 17 136 true:=cQ
theorem aqI:ur 23=some ⟨false,1⟩:=cQ
theorem agw:pL 23=.slice 5 40 true:=cQ
theorem al7:Jo 23=some [.I 0,.I 0,.I 0,.I 0,.I 0]:=cQ
theorem aqJ:ur 25=some ⟨true,3⟩:=cQ
theorem ash:pL 25=.struct [⟨0,1,false⟩,⟨1,1,false⟩,⟨2,1,false⟩]:=cQ
theorem aqK:ur 26=some ⟨false,1⟩:=cQ
theorem apI:pL 26=.slice 3 24 true:=cQ
theorem arT:Jo 26=some [.I 0,.I 0,.I 0]:=cQ
theorem aqL:ur 27=some ⟨false,1⟩:=cQ
theorem apJ:pL 27=.slice 12 96 true:=cQ
theorem arU:Jo 27=some [.I 0,.I 0,.I 0,.I 0,.I 0,.I 0,.I 0,.I 0,.I 0,.I 0,.I 0,.I 0]:=cQ
theorem aqM:ur 28=some ⟨false,1⟩:=cQ
theorem apK:pL 28=.slice 4 32 true:=cQ
theorem arV:Jo 28=some [.I 0,.I 0,.I 0,.I 0]:=cQ
theorem aqN:ur 30=some ⟨true,3⟩:=cQ
theorem asi:pL 30=.struct [⟨0,1,false⟩,⟨1,1,false⟩,⟨2,1,false⟩]:=cQ
theorem ap9:C9 30=some [.nil,.nil,.nil]:=cQ
theorem aqO:ur 31=some ⟨false,1⟩:=cQ
theorem apL:pL 31=.slice 7 56 true:=cQ
theorem arW:Jo 31=some [.I 0,.I 0,.I 0,.I 0,.I 0,.I 0,.bool false]:=cQ
theorem aqP:ur 32=some ⟨false,1⟩:=cQ
theorem apM:pL 32=.slice 4 32 true:=cQ
theorem arX:Jo 32=some [.I 0,.I 0,.I 0,.I 0]:=cQ
theorem aqQ:ur 34=some ⟨true,3⟩:=cQ
theorem asj:pL 34=.struct [⟨0,1,false⟩,⟨1,1,false⟩,⟨2,1,false⟩]:=cQ
theorem ap':C9 34=some [.I 0,.nil,.nil]:=cQ
theorem aqR:ur 35=some ⟨false,1⟩:=cQ
theorem apO:pL 35=.slice 4 32 true:=cQ
theorem arY:Jo 35=some [.I 0,.I 0,.I 0,.I 0]:=cQ
theorem aqS:ur 37=some ⟨true,2⟩:=cQ
theorem asl:pL 37=.struct [⟨0,1,false⟩,⟨1,1,false⟩]:=cQ
theorem aqa:C9 37=some [.I 0,.nil]:=cQ
theorem aqT:ur 38=some ⟨false,1⟩:=cQ
theorem alZ:pL 38=.slice 3 24 true:=cQ
theorem al8:Jo 38=some [.I 0,.I 0,.I 0]:=cQ
theorem aqU:ur 39=some ⟨false,1⟩:=cQ
theorem asn:pL 39=.slice 4 32 true:=cQ
theorem arZ:Jo 39=some [.I 0,.I 0,.I 0,.I 0]:=cQ
theorem aqV:ur 40=some ⟨false,1⟩:=cQ
theorem aso:pL 40=.slice 7 88 true:=cQ
theorem ar0:Jo 40=some [.I 0,.I 0,.I 0,.I 0,.I 0,.nil,.nil]:=cQ
theorem aqW:ur 42=some ⟨true,15⟩:=cQ
theorem asp:pL 42=.struct [⟨0,3,true⟩,⟨3,3,true⟩,⟨6,3,true⟩,⟨9,2,true⟩,⟨11,1,false⟩,⟨12,1,false⟩,⟨13,1,false⟩,⟨14,1,false⟩]:=cQ
theorem aqb:C9 42=some [.I 0,.I 0,.I 0,.nil,.nil,.nil,.I 0,.nil,.nil,.I 0,.nil,.nil,.nil,.nil,.nil]:=cQ
theorem aqX:ur 45=some ⟨true,2⟩:=cQ
theorem asq:pL 45=.struct [⟨0,1,false⟩,⟨1,1,false⟩]:=cQ
theorem aqc:C9 45=some [.I 0,.I 0]:=cQ
theorem arf:tvA 9 45=some [.int,.int]:=cQ
theorem isAgg45:tiA 45=true:=cQ
theorem akz:ur 47=some ⟨true,5⟩:=cQ
theorem asr:pL 47=.struct [⟨0,2,true⟩,⟨2,1,false⟩,⟨3,1,false⟩,⟨4,1,false⟩]:=cQ
theorem aqd:C9 47=some [.I 0,.I 0,.I 0,.I 0,.I 0]:=cQ
theorem aqY:ur 51=some ⟨true,3⟩:=cQ
theorem asu:pL 51=.struct [⟨0,1,false⟩,⟨1,1,false⟩,⟨2,1,false⟩]:=cQ
theorem aqe:C9 51=some [.I 0,.I 0,.I 0]:=cQ
theorem aqZ:ur 52=some ⟨false,1⟩:=cQ
theorem apP:pL 52=.slice 8 64 true:=cQ
theorem ar1:Jo 52=some [.I 0,.I 0,.I 0,.I 0,.I 0,.I 0,.I 0,.I 0]:=cQ
theorem aq0:ur 53=some ⟨false,1⟩:=cQ
theorem apQ:pL 53=.slice 3 24 true:=cQ
theorem ar2:Jo 53=some [.I 0,.I 0,.I 0]:=cQ
theorem aq1:ur 54=some ⟨false,1⟩:=cQ
theorem asv:pL 58=.arr 9 1 false:=cQ
theorem aqf:C9 58=some [.I 0,.I 0,.I 0,.I 0,.I 0,.I 0,.I 0,.I 0,.I 0]:=cQ
theorem aq2:ur 59=some ⟨true,6⟩:=cQ
theorem asw:pL 59=.arr 6 1 false:=cQ
theorem aqg:C9 59=some [.I 0,.I 0,.I 0,.I 0,.I 0,.I 0]:=cQ
theorem aq3:ur 61=some ⟨true,17⟩:=cQ
theorem asx:pL 61=.struct [⟨0,1,false⟩,⟨1,1,false⟩,⟨2,1,false⟩,⟨3,1,false⟩,⟨4,1,false⟩,⟨5,1,false⟩,⟨6,1,false⟩,⟨7,1,false⟩,⟨8,1,false⟩,⟨9,1,false⟩,⟨10,1,false⟩,⟨11,6,true⟩]:=cQ
theorem aqh:C9 61=some [.I 0,.I 0,.I 0,.I 0,.I 0,.I 0,.I 0,.I 0,.I 0,.I 0,.I 0,.I 0,.I 0,.I 0,.I 0,.I 0,.I 0]:=cQ
theorem asz:pL 62=.int .u64:=cQ
theorem aq4:ur 64=some ⟨true,5⟩:=cQ
theorem asA:pL 64=.struct [⟨0,1,false⟩,⟨1,1,false⟩,⟨2,1,false⟩,⟨3,1,false⟩,⟨4,1,false⟩]:=cQ
theorem zero64:C9 64=some [.I 0,.I 0,.I 0,.nil,.nil]:=cQ
theorem aq5:ur 68=some ⟨true,12⟩:=cQ
theorem asB:pL 68=.struct [⟨0,1,false⟩,⟨1,1,false⟩,⟨2,1,false⟩,⟨3,1,false⟩,⟨4,1,false⟩,⟨5,1,false⟩,⟨6,6,true⟩]:=cQ
theorem aqi:C9 68=some [.I 0,.I 0,.I 0,.I 0,.I 0,.I 0,.I 0,.I 0,.I 0,.I 0,.I 0,.I 0]:=cQ
theorem aq6:ur 70=some ⟨true,3⟩:=cQ
theorem asC:pL 70=.struct [⟨0,1,false⟩,⟨1,1,false⟩,⟨2,1,false⟩]:=cQ
theorem aqj:C9 70=some [.I 0,.I 0,.I 0]:=cQ
theorem arh:tvA 9 70=some [.int,.int,.int]:=cQ
theorem isAgg70:tiA 70=true:=cQ
theorem aq7:ur 72=some ⟨true,4⟩:=cQ
theorem asD:pL 72=.struct [⟨0,3,true⟩,⟨3,1,false⟩]:=cQ
theorem aqk:C9 72=some [.I 0,.I 0,.I 0,.I 0]:=cQ
theorem aq8:ur 74=some ⟨true,4⟩:=cQ
theorem asE:pL 74=.struct [⟨0,2,true⟩,⟨2,1,false⟩,⟨3,1,false⟩]:=cQ
theorem aql:C9 74=some [.I 0,.I 0,.I 0,.I 0]:=cQ
theorem aq9:ur 76=some ⟨true,3⟩:=cQ
theorem asF:pL 76=.struct [⟨0,1,false⟩,⟨1,1,false⟩,⟨2,1,false⟩]:=cQ
theorem aqm:C9 76=some [.I 0,.I 0,.I 0]:=cQ
theorem aq':ur 80=some ⟨true,3⟩:=cQ
theorem asG:pL 80=.arr 3 1 false:=cQ
theorem aqn:C9 80=some [.I 0,.I 0,.I 0]:=cQ
theorem ara:ur 83=some ⟨false,1⟩:=cQ
theorem al0:pL 83=.slice 1 8 false:=cQ
theorem al9:Jo 83=some [.I 0]:=cQ
theorem asH:pL 86=.arr 5 1 false:=cQ
theorem arb:ur 88=some ⟨true,8⟩:=cQ
theorem asI:pL 88=.struct [⟨0,1,false⟩,⟨1,1,false⟩,⟨2,5,true⟩,⟨7,1,false⟩]:=cQ
theorem aqo:C9 88=some [.I 0,.I 0,.I 0,.I 0,.I 0,.I 0,.I 0,.I 0]:=cQ
theorem apR:pL 91=.slice 4 32 true:=cQ
theorem ar3:Jo 91=some [.I 0,.I 0,.I 0,.I 0]:=cQ
theorem arc:ur 97=some ⟨true,3⟩:=cQ
theorem asJ:pL 97=.struct [⟨0,1,false⟩,⟨1,1,false⟩,⟨2,1,false⟩]:=cQ
theorem aqp:C9 97=some [.I 0,.I 0,.I 0]:=cQ
theorem ao4:ur 107=some ⟨true,7⟩:=cQ
theorem arA:pL 107=.struct [⟨0,1,false⟩,⟨1,1,false⟩,⟨2,5,true⟩]:=cQ
theorem an8:C9 107=some [.I 0,.I 0,.I 0,.I 0,.I 0,.nil,.nil]:=cQ
theorem afq:ur 141=some ⟨true,4⟩:=cQ
theorem arB:pL 141=.struct [⟨0,3,true⟩,⟨3,1,false⟩]:=cQ
theorem an9:C9 141=some [.I 0,.I 0,.I 0,.I 0]:=cQ
theorem ao5:ur 159=some ⟨true,4⟩:=cQ
theorem arC:pL 159=.struct [⟨0,1,false⟩,⟨1,1,false⟩,⟨2,1,false⟩,⟨3,1,false⟩]:=cQ
theorem an':C9 159=some [.I 0,.I 0,.I 0,.I 0]:=cQ
theorem ao6:ur 189=some ⟨true,7⟩:=cQ
theorem arD:pL 189=.struct [⟨0,1,false⟩,⟨1,1,false⟩,⟨2,1,false⟩,⟨3,1,false⟩,⟨4,1,false⟩,⟨5,1,false⟩,⟨6,1,false⟩]:=cQ
theorem aoa:C9 189=some [.I 0,.I 0,.I 0,.I 0,.I 0,.I 0,.bool false]:=cQ
theorem ao7:ur 197=some ⟨true,4⟩:=cQ
theorem arE:pL 197=.struct [⟨0,3,true⟩,⟨3,1,false⟩]:=cQ
theorem aob:C9 197=some [.I 0,.I 0,.I 0,.I 0]:=cQ
theorem ao8:ur 199=some ⟨false,1⟩:=cQ
theorem aoc:C9 199=some [.mD]:=cQ
theorem arF:pL 210=.slice 3 24 true:=cQ
theorem ap1:Jo 210=some [.I 0,.I 0,.I 0]:=cQ
theorem ao9:ur 217=some ⟨true,3⟩:=cQ
theorem arG:pL 217=.struct [⟨0,1,false⟩,⟨1,1,false⟩,⟨2,1,false⟩]:=cQ
theorem aod:C9 217=some [.I 0,.I 0,.I 0]:=cQ
theorem ao':ur 220=some ⟨false,1⟩:=cQ
theorem arH:pL 220=.int .u64:=cQ
theorem apa:ur 226=some ⟨true,2⟩:=cQ
theorem arI:pL 226=.struct [⟨0,1,false⟩,⟨1,1,false⟩]:=cQ
theorem aoe:C9 226=some [.I 0,.int .u64 0]:=cQ
theorem ape:tvA 9 226=some [.int,.int]:=cQ
theorem isAgg226:tiA 226=true:=cQ
theorem arJ:pL 271=.slice 1 24 false:=cQ
theorem ap2:Jo 271=some [.nil]:=cQ
theorem arK:pL 296=.slice 1 16 false:=cQ
theorem ap3:Jo 296=some [.str ⟨#[]⟩]:=cQ
theorem arL:pL 307=.slice 3 24 true:=cQ
theorem ap4:Jo 307=some [.I 0,.I 0,.I 0]:=cQ
theorem apb:ur 335=some ⟨true,2⟩:=cQ
theorem arM:pL 335=.struct [⟨0,1,false⟩,⟨1,1,false⟩]:=cQ
theorem aof:C9 335=some [.int .u64 0,.int .u64 0]:=cQ
theorem apf:tvA 9 335=some [.int,.int]:=cQ
theorem isAgg335:tiA 335=true:=cQ
theorem alY:pL 337=.slice 3 24 true:=cQ
theorem ap5:Jo 337=some [.int .u64 0,.int .u64 0,.I 0]:=cQ
theorem afr:ur 341=some ⟨true,3⟩:=cQ
theorem arN:pL 341=.struct [⟨0,2,true⟩,⟨2,1,false⟩]:=cQ
theorem aog:C9 341=some [.int .u64 0,.int .u64 0,.I 0]:=cQ
theorem arO:pL 345=.slice 2 16 true:=cQ
theorem ap6:Jo 345=some [.I 0,.int .u64 0]:=cQ
theorem arP:pL 362=.slice 1 24 false:=cQ
theorem ap7:Jo 362=some [.nil]:=cQ
theorem arQ:pL 384=.slice 1 1 false:=cQ
theorem ap8:Jo 384=some [.bool false]:=cQ
attribute [go_sem] ar7 ty3 ar8 ty4 ty5 ar9 ty9 asg aqI agw al7 aqJ ash aqK apI arT aqL apJ arU aqM apK arV aqN asi ap9 aqO apL arW aqP apM arX aqQ asj ap' aqR apO arY aqS asl aqa aqT alZ al8 aqU asn arZ aqV aso ar0 aqW asp aqb aqX asq aqc arf isAgg45 akz asr aqd aqY asu aqe aqZ apP ar1 aq0 apQ ar2 aq1 asv aqf aq2 asw aqg aq3 asx aqh asz aq4 asA zero64 aq5 asB aqi aq6 asC aqj arh isAgg70 aq7 asD aqk aq8 asE aql aq9 asF aqm aq' asG aqn ara al0 al9 asH arb asI aqo apR ar3 arc asJ aqp ao4 arA an8 afq arB an9 ao5 arC an' ao6 arD aoa ao7 arE aob ao8 aoc arF ap1 ao9 arG aod ao' arH apa arI aoe ape isAgg226 arJ ap2 arK ap3 arL ap4 apb arM aof apf isAgg335 alY ap5 afr arN aog arO ap6 arP ap7 arQ ap8
end Go.Proofs.YtpepnkihgjjpmaaGreat

