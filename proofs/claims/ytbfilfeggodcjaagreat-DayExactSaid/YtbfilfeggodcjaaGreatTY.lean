/- What the types of this seat's translation say, a closed fact each; no theorem of a claim. -/
import Derived.Test.YtbfilfeggodcjaaGreatProg
import Derived.KernelRfl
import Derived.Test.YtbfilfeggodcjaaGreatAB
namespace Go.Proofs.YtbfilfeggodcjaaGreat
open Go.Abs
theorem ct{T:Type _}{a b:T}(h:a=b:=by kernel_rfl):a=b:=h
abbrev Sq:=Abs.Spec Tryz.prog
noncomputable abbrev qx:=dS Tryz.prog
noncomputable abbrev nM:=bY Tryz.prog
noncomputable abbrev CH:=iG Tryz.prog
noncomputable abbrev Ie:=bW Tryz.prog
noncomputable abbrev tiA:=xI Tryz.prog
noncomputable abbrev tvA:=gv Tryz.prog
theorem mixed:Tryz.prog.follows .mixedOrders=true:=ct
theorem ahv:qx 3=some ⟨false,1⟩:=ct
theorem ty3:nM 3=.int .i64:=ct
theorem ahw:qx 4=some ⟨false,1⟩:=ct
theorem ty4:nM 4=.bool:=ct
theorem ty5:nM 5=.int .u8:=ct
theorem ty9:nM 9=.str:=ct
theorem age:qx 23=some ⟨true,3⟩:=ct
theorem ahD:nM 23=.struct [⟨0,1,false⟩,⟨1,1,false⟩,⟨2,1,false⟩]:=ct
theorem agf:qx 24=some ⟨false,1⟩:=ct
theorem afz:nM 24=.slice 3 24 true:=ct
theorem ahf:Ie 24=some [.I 0,.I 0,.I 0]:=ct
theorem agh:qx 25=some ⟨false,1⟩:=ct
theorem afA:nM 25=.slice 12 96 true:=ct
theorem ahg:Ie 25=some [.I 0,.I 0,.I 0,.I 0,.I 0,.I 0,.I 0,.I 0,.I 0,.I 0,.I 0,.I 0]:=ct
theorem agi:qx 26=some ⟨false,1⟩:=ct
theorem afB:nM 26=.slice 4 32 true:=ct
theorem ahh:Ie 26=some [.I 0,.I 0,.I 0,.I 0]:=ct
theorem agj:qx 28=some ⟨true,3⟩:=ct
theorem ahE:nM 28=.struct [⟨0,1,false⟩,⟨1,1,false⟩,⟨2,1,false⟩]:=ct
theorem afQ:CH 28=some [.nil,.nil,.nil]:=ct
theorem agk:qx 29=some ⟨false,1⟩:=ct
theorem afC:nM 29=.slice 7 56 true:=ct
theorem ahi:Ie 29=some [.I 0,.I 0,.I 0,.I 0,.I 0,.I 0,.bool false]:=ct
theorem agl:qx 30=some ⟨false,1⟩:=ct
theorem afD:nM 30=.slice 4 32 true:=ct
theorem ahj:Ie 30=some [.I 0,.I 0,.I 0,.I 0]:=ct
theorem agm:qx 32=some ⟨true,3⟩:=ct
theorem ahG:nM 32=.struct [⟨0,1,false⟩,⟨1,1,false⟩,⟨2,1,false⟩]:=ct
theorem zero32:CH 32=some [.I 0,.nil,.nil]:=ct
theorem agn:qx 33=some ⟨false,1⟩:=ct
theorem afE:nM 33=.slice 4 32 true:=ct
theorem ahk:Ie 33=some [.I 0,.I 0,.I 0,.I 0]:=ct
theorem ago:qx 35=some ⟨true,2⟩:=ct
theorem ahH:nM 35=.struct [⟨0,1,false⟩,⟨1,1,false⟩]:=ct
theorem afR:CH 35=some [.I 0,.nil]:=ct
theorem agp:qx 36=some ⟨false,1⟩:=ct
theorem afF:nM 36=.slice 3 24 true:=ct
theorem ahl:Ie 36=some [.I 0,.I 0,.I 0]:=ct
theorem agq:qx 37=some ⟨false,1⟩:=ct
theorem Vw:nM 37=.slice 4 32 true:=ct
theorem SW:Ie 37=some [.I 0,.I 0,.I 0,.I 0]:=ct
theorem agr:qx 38=some ⟨false,1⟩:=ct
theorem afG:nM 38=.slice 5 40 true:=ct
theorem ahm:Ie 38=some [.I 0,.I 0,.I 0,.I 0,.I 0]:=ct
theorem ags:qx 39=some ⟨false,1⟩:=ct
theorem Vx:nM 39=.slice 7 88 true:=ct
theorem ahn:Ie 39=some [.I 0,.I 0,.I 0,.I 0,.I 0,.nil,.nil]:=ct
theorem agt:qx 41=some ⟨true,15⟩:=ct
theorem ahI:nM 41=.struct [⟨0,3,true⟩,⟨3,3,true⟩,⟨6,3,true⟩,⟨9,2,true⟩,⟨11,1,false⟩,⟨12,1,false⟩,⟨13,1,false⟩,⟨14,1,false⟩]:=ct
theorem afS:CH 41=some [.I 0,.I 0,.I 0,.nil,.nil,.nil,.I 0,.nil,.nil,.I 0,.nil,.nil,.nil,.nil,.nil]:=ct
theorem agu:qx 44=some ⟨false,1⟩:=ct
theorem Q9:nM 44=.slice 3 24 true:=ct
theorem abD:Ie 44=some [.I 0,.I 0,.I 0]:=ct
theorem agv:qx 45=some ⟨false,1⟩:=ct
theorem agw:qx 62=some ⟨false,1⟩:=ct
theorem abv:nM 62=.slice 8 64 true:=ct
theorem aho:Ie 62=some [.I 0,.I 0,.I 0,.I 0,.I 0,.I 0,.I 0,.I 0]:=ct
theorem Z8:qx 64=some ⟨true,5⟩:=ct
theorem ahJ:nM 64=.struct [⟨0,1,false⟩,⟨1,1,false⟩,⟨2,1,false⟩,⟨3,1,false⟩,⟨4,1,false⟩]:=ct
theorem zero64:CH 64=some [.I 0,.I 0,.I 0,.nil,.nil]:=ct
theorem agx:qx 66=some ⟨true,7⟩:=ct
theorem ahK:nM 66=.struct [⟨0,1,false⟩,⟨1,1,false⟩,⟨2,5,true⟩]:=ct
theorem afT:CH 66=some [.I 0,.I 0,.I 0,.I 0,.I 0,.nil,.nil]:=ct
theorem afH:nM 73=.slice 4 32 true:=ct
theorem ahp:Ie 73=some [.I 0,.I 0,.I 0,.I 0]:=ct
theorem ahL:nM 81=.slice 1 8 false:=ct
theorem ahq:Ie 81=some [.I 0]:=ct
theorem Z9:qx 86=some ⟨true,3⟩:=ct
theorem ahM:nM 86=.struct [⟨0,1,false⟩,⟨1,1,false⟩,⟨2,1,false⟩]:=ct
theorem afU:CH 86=some [.I 0,.I 0,.I 0]:=ct
theorem agy:qx 94=some ⟨true,4⟩:=ct
theorem ahN:nM 94=.struct [⟨0,3,true⟩,⟨3,1,false⟩]:=ct
theorem afV:CH 94=some [.I 0,.I 0,.I 0,.I 0]:=ct
theorem aeO:qx 114=some ⟨true,3⟩:=ct
theorem agT:nM 114=.struct [⟨0,1,false⟩,⟨1,1,false⟩,⟨2,1,false⟩]:=ct
theorem adJ:CH 114=some [.I 0,.I 0,.I 0]:=ct
theorem aeP:qx 116=some ⟨true,2⟩:=ct
theorem agU:nM 116=.struct [⟨0,1,false⟩,⟨1,1,false⟩]:=ct
theorem adK:CH 116=some [.I 0,.I 0]:=ct
theorem aeQ:qx 118=some ⟨true,5⟩:=ct
theorem agV:nM 118=.struct [⟨0,2,true⟩,⟨2,1,false⟩,⟨3,1,false⟩,⟨4,1,false⟩]:=ct
theorem adL:CH 118=some [.I 0,.I 0,.I 0,.I 0,.I 0]:=ct
theorem aeR:qx 123=some ⟨true,4⟩:=ct
theorem agW:nM 123=.struct [⟨0,2,true⟩,⟨2,1,false⟩,⟨3,1,false⟩]:=ct
theorem adM:CH 123=some [.I 0,.I 0,.I 0,.I 0]:=ct
theorem aeS:qx 124=some ⟨true,6⟩:=ct
theorem agX:nM 124=.arr 6 1 false:=ct
theorem adN:CH 124=some [.I 0,.I 0,.I 0,.I 0,.I 0,.I 0]:=ct
theorem aeT:qx 126=some ⟨true,12⟩:=ct
theorem agY:nM 126=.struct [⟨0,1,false⟩,⟨1,1,false⟩,⟨2,1,false⟩,⟨3,1,false⟩,⟨4,1,false⟩,⟨5,1,false⟩,⟨6,6,true⟩]:=ct
theorem adO:CH 126=some [.I 0,.I 0,.I 0,.I 0,.I 0,.I 0,.I 0,.I 0,.I 0,.I 0,.I 0,.I 0]:=ct
theorem aeU:qx 131=some ⟨false,1⟩:=ct
theorem agZ:nM 131=.int .u64:=ct
theorem aeV:qx 133=some ⟨true,2⟩:=ct
theorem ag0:nM 133=.struct [⟨0,1,false⟩,⟨1,1,false⟩]:=ct
theorem adP:CH 133=some [.I 0,.int .u64 0]:=ct
theorem ae7:tvA 9 133=some [.int,.int]:=ct
theorem isAgg133:tiA 133=true:=ct
theorem aeW:qx 145=some ⟨true,3⟩:=ct
theorem ag1:nM 145=.struct [⟨0,1,false⟩,⟨1,1,false⟩,⟨2,1,false⟩]:=ct
theorem adQ:CH 145=some [.I 0,.I 0,.I 0]:=ct
theorem ae8:tvA 9 145=some [.int,.int,.int]:=ct
theorem isAgg145:tiA 145=true:=ct
theorem Uw:qx 148=some ⟨true,4⟩:=ct
theorem ag2:nM 148=.struct [⟨0,3,true⟩,⟨3,1,false⟩]:=ct
theorem adR:CH 148=some [.I 0,.I 0,.I 0,.I 0]:=ct
theorem aeX:qx 152=some ⟨true,3⟩:=ct
theorem ag3:nM 152=.struct [⟨0,1,false⟩,⟨1,1,false⟩,⟨2,1,false⟩]:=ct
theorem adS:CH 152=some [.I 0,.I 0,.I 0]:=ct
theorem aeY:qx 156=some ⟨true,4⟩:=ct
theorem ag4:nM 156=.struct [⟨0,1,false⟩,⟨1,1,false⟩,⟨2,1,false⟩,⟨3,1,false⟩]:=ct
theorem adT:CH 156=some [.I 0,.I 0,.I 0,.I 0]:=ct
theorem aeZ:qx 159=some ⟨true,7⟩:=ct
theorem ag5:nM 159=.struct [⟨0,1,false⟩,⟨1,1,false⟩,⟨2,1,false⟩,⟨3,1,false⟩,⟨4,1,false⟩,⟨5,1,false⟩,⟨6,1,false⟩]:=ct
theorem adU:CH 159=some [.I 0,.I 0,.I 0,.I 0,.I 0,.I 0,.bool false]:=ct
theorem ae0:qx 163=some ⟨true,4⟩:=ct
theorem ag6:nM 163=.struct [⟨0,3,true⟩,⟨3,1,false⟩]:=ct
theorem adV:CH 163=some [.I 0,.I 0,.I 0,.I 0]:=ct
theorem ag7:nM 186=.slice 3 24 true:=ct
theorem afN:Ie 186=some [.I 0,.I 0,.I 0]:=ct
theorem ag8:nM 217=.arr 5 1 false:=ct
theorem ae1:qx 219=some ⟨true,8⟩:=ct
theorem ag9:nM 219=.struct [⟨0,1,false⟩,⟨1,1,false⟩,⟨2,5,true⟩,⟨7,1,false⟩]:=ct
theorem ag':nM 250=.slice 2 16 true:=ct
theorem afO:Ie 250=some [.I 0,.int .u64 0]:=ct
theorem aha:nM 256=.slice 13 104 true:=ct
theorem afP:Ie 256=some [.I 0,.I 0,.I 0,.I 0,.I 0,.I 0,.I 0,.I 0,.I 0,.I 0,.I 0,.I 0,.I 0]:=ct
theorem ae2:qx 260=some ⟨true,13⟩:=ct
theorem ahb:nM 260=.struct [⟨0,12,true⟩,⟨12,1,false⟩]:=ct
theorem adW:CH 260=some [.I 0,.I 0,.I 0,.I 0,.I 0,.I 0,.I 0,.I 0,.I 0,.I 0,.I 0,.I 0,.I 0]:=ct
theorem ae3:qx 269=some ⟨false,1⟩:=ct
theorem adX:CH 269=some [.jh]:=ct
theorem ahc:nM 282=.int .u64:=ct
attribute [go_sem] ahv ty3 ahw ty4 ty5 ty9 age ahD agf afz ahf agh afA ahg agi afB ahh agj ahE afQ agk afC ahi agl afD ahj agm ahG zero32 agn afE ahk ago ahH afR agp afF ahl agq Vw SW agr afG ahm ags Vx ahn agt ahI afS agu Q9 abD agv agw abv aho Z8 ahJ zero64 agx ahK afT afH ahp ahL ahq Z9 ahM afU agy ahN afV aeO agT adJ aeP agU adK aeQ agV adL aeR agW adM aeS agX adN aeT agY adO aeU agZ aeV ag0 adP ae7 isAgg133 aeW ag1 adQ ae8 isAgg145 Uw ag2 adR aeX ag3 adS aeY ag4 adT aeZ ag5 adU ae0 ag6 adV ag7 afN ag8 ae1 ag9 ag' afO aha afP ae2 ahb adW ae3 adX ahc
end Go.Proofs.YtbfilfeggodcjaaGreat

