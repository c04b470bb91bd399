/- The closed facts of AuditKinds's row; no theorem of a claim. -/
import Derived.Test.YtgnhdbdipfncgaaGreatChecked
import Derived.Test.YtgnhdbdipfncgaaGreatRows
import Derived.JoinedOf
import Derived.Test.YtgnhdbdipfncgaaGreatAbcLaw
set_option linter.unusedSimpArgs false
set_option linter.unusedVariables false
namespace Go.Proofs.YtgnhdbdipfncgaaGreat
open Go.ChangeShapes Go.WideShapes Go.ChangeAt Go.RowKit Go.Abs
theorem auditKindsFact0:(Rows.auditKindsRow.wf (OpenSpec.ofChange Rows.auditKindsSpec))=true:=by kernel_rfl
theorem auditKindsFact1:(laidOutB Tryz.prog)=true:=by kernel_rfl
theorem auditKindsFact2:(mapsRowed Tryz.prog)=true:=by kernel_rfl
theorem auditKindsFact3:(Tryz.f5.params.all (Tryz.prog.readableRec ·))=true:=by kernel_rfl
theorem auditKindsFact4:(namedTie Tryz.prog Rows.auditKindsRow.named Rows.auditKindsSpec.vars)=true:=by kernel_rfl
theorem auditKindsFact5:((Rows.auditKindsRow.stops==[]))=true:=by kernel_rfl
theorem auditKindsFact6:((Tryz.prog.stops==[]))=true:=by kernel_rfl
theorem auditKindsFact7:((Rows.auditKindsRow.knobs==[]))=true:=by kernel_rfl
theorem auditKindsFact8:((Tryz.prog.stopKnobs==[]))=true:=by kernel_rfl
theorem auditKindsFact9:((Rows.auditKindsRow.inPlace==Tryz.prog.inPlace 5))=true:=by kernel_rfl
theorem auditKindsFact10:((Rows.auditKindsRow.unfollowed==Tryz.prog.unfollowed 5))=true:=by kernel_rfl
theorem auditKindsFact11:((Rows.auditKindsRow.recurses==Tryz.prog.recurses 5))=true:=by kernel_rfl
theorem auditKindsFact12:((Rows.auditKindsRow.named==Tryz.prog.varsNamed 5))=true:=by kernel_rfl
theorem auditKindsFact13:((Rows.auditKindsRow.maps==(Tryz.f5.params.toList++Rows.auditKindsSpec.plain.varTypes Tryz.prog).any (Tryz.prog.mapsRec ·)))=true:=by kernel_rfl
theorem auditKindsFact14:((Rows.auditKindsRow.ifaces==(Tryz.f5.params.toList++Rows.auditKindsSpec.plain.varTypes Tryz.prog).any (Tryz.prog.ifacesRec ·)))=true:=by kernel_rfl
theorem auditKindsFact15:((Rows.auditKindsRow.mapsOut==Tryz.prog.mapsAmong Tryz.f5.resultTypes.toList))=true:=by kernel_rfl
theorem auditKindsFact16:((Rows.auditKindsRow.loops==(Tryz.f5.params.toList++Rows.auditKindsSpec.plain.varTypes Tryz.prog).any (Tryz.prog.loopsFrom ·)))=true:=by kernel_rfl
theorem auditKindsFact17:((Rows.auditKindsRow.wideKeys==(Tryz.f5.params.toList++Rows.auditKindsSpec.plain.varTypes Tryz.prog++Tryz.f5.resultTypes.toList).any (Tryz.prog.wideKeysFrom ·)))=true:=by kernel_rfl
theorem auditKindsFact18:(Rows.auditKindsSpec.vars.all (Tryz.prog.varReadable ·))=true:=by kernel_rfl
theorem auditKindsFact19:(Tryz.f5.resultTypes.all (fun t=>Tryz.prog.readableRec t&&decide (t < Tryz.prog.types.size)))=true:=by kernel_rfl
theorem auditKindsFact20:((Rows.auditKindsRow.ifacesOut==Tryz.f5.resultTypes.toList.any (Tryz.prog.ifacesRec ·)))=true:=by kernel_rfl
theorem auditKindsFact21:((Rows.auditKindsRow.loopsOut==Tryz.f5.resultTypes.toList.any (Tryz.prog.loopsFrom ·)))=true:=by kernel_rfl
theorem auditKindsFact22:((Rows.auditKindsRow.plainKeys==Tryz.prog.plainKeys))=true:=by kernel_rfl
theorem auditKindsFact23:(Rows.auditKindsRow.shortTexts.isNone)=true:=by kernel_rfl
theorem auditKindsFact24:(Tryz.prog.stopsHeard)=true:=by kernel_rfl
theorem auditKindsFact25:(Tryz.prog.mayEnter)=true:=by kernel_rfl
theorem auditKindsFact26:((Rows.auditKindsRow.lifted==Tryz.prog.liftsFinal))=true:=by kernel_rfl
theorem auditKindsFact27:((Tryz.prog.make==some Rows.auditKindsRow.make))=true:=by kernel_rfl
theorem auditKindsFact28:((Rows.auditKindsRow.kinds==(if Rows.auditKindsRow.domain.isEmpty then [] else Tryz.f5.params.toList.map fun t=>match Tryz.prog.underlying t with | some (.int k)=>some k | _=>none)))=true:=by kernel_rfl
theorem auditKindsFact29:((Rows.auditKindsRow.pinned==Rows.auditKindsRow.pinnedBy))=true:=by kernel_rfl
theorem auditKindsFact30:((Rows.auditKindsRow.veiled==(Tryz.f5.params.toList++Rows.auditKindsSpec.plain.varTypes Tryz.prog++Tryz.f5.resultTypes.toList).any (Tryz.prog.veiledRec ·)))=true:=by kernel_rfl
theorem auditKindsFact31:(Rows.auditKindsRow.veiledFits Tryz.prog Tryz.f5.params.toList (Tryz.f5.params.toList++Rows.auditKindsSpec.plain.varTypes Tryz.prog++Tryz.f5.resultTypes.toList))=true:=by kernel_rfl
theorem auditKindsAnd {a b:Bool} (h1:a=true) (h2:b=true):(a&&b)=true:=by rw [h1,h2];rfl
set_option maxRecDepth 100000 in
theorem auditKindsJoined:joinedFacts Tryz.prog 5 Tryz.f5 Rows.auditKindsSpec Rows.auditKindsRow=true:=by
 unfold joinedFacts;exact (auditKindsAnd (auditKindsAnd (auditKindsAnd (auditKindsAnd (auditKindsAnd (auditKindsAnd (auditKindsAnd (auditKindsAnd (auditKindsAnd (auditKindsAnd (auditKindsAnd (auditKindsAnd (auditKindsAnd (auditKindsAnd (auditKindsAnd (auditKindsAnd (auditKindsAnd (auditKindsAnd (auditKindsAnd (auditKindsAnd (auditKindsAnd (auditKindsAnd (auditKindsAnd (auditKindsAnd (auditKindsAnd (auditKindsAnd (auditKindsAnd (auditKindsAnd (auditKindsAnd (auditKindsAnd (auditKindsAnd auditKindsFact0 auditKindsFact1) auditKindsFact2) auditKindsFact3) auditKindsFact4) auditKindsFact5) auditKindsFact6) auditKindsFact7) auditKindsFact8) auditKindsFact9) auditKindsFact10) auditKindsFact11) auditKindsFact12) auditKindsFact13) auditKindsFact14) auditKindsFact15) auditKindsFact16) auditKindsFact17) auditKindsFact18) auditKindsFact19) auditKindsFact20) auditKindsFact21) auditKindsFact22) auditKindsFact23) auditKindsFact24) auditKindsFact25) auditKindsFact26) auditKindsFact27) auditKindsFact28) auditKindsFact29) auditKindsFact30) auditKindsFact31)
theorem auditKindsNamed:Tryz.prog.funcNamed Rows.auditKindsRow.func=some 5:=by kernel_rfl
theorem auditKindsInst:decide (Tryz.f5.isInstance Tryz.prog Rows.auditKindsRow.origin Rows.auditKindsRow.targs)=true:=by kernel_rfl
set_option maxHeartbeats 2000000 in
theorem auditKindsWrap:Tryz.f5.isWrapper Tryz.prog Rows.auditKindsRow.wrapper Rows.auditKindsRow.mainSum:=by
 unfold Func.isWrapper;first | (rw [if_pos (by decide +kernel)];kernel_rfl) | (rw [if_neg (by decide +kernel)];exact ⟨rfl,rfl⟩)
end Go.Proofs.YtgnhdbdipfncgaaGreat
