/- The closed facts of AuditHolds's row; no theorem of a claim. -/
import Derived.Test.YtgnhdbdipfncgaaGreatChecked
import Derived.Test.YtgnhdbdipfncgaaGreatRows
import Derived.JoinedOf
import Derived.Test.YtgnhdbdipfncgaaGreatAbcLaw
set_option linter.unusedSimpArgs false
set_option linter.unusedVariables false
namespace Go.Proofs.YtgnhdbdipfncgaaGreat
open Go.ChangeShapes Go.WideShapes Go.ChangeAt Go.RowKit Go.Abs
theorem auditHoldsFact0:(Rows.auditHoldsRow.wf (OpenSpec.ofChange Rows.auditHoldsSpec))=true:=by kernel_rfl
theorem auditHoldsFact1:(laidOutB Tryz.prog)=true:=by kernel_rfl
theorem auditHoldsFact2:(mapsRowed Tryz.prog)=true:=by kernel_rfl
theorem auditHoldsFact3:(Tryz.f3.params.all (Tryz.prog.readableRec ·))=true:=by kernel_rfl
theorem auditHoldsFact4:(namedTie Tryz.prog Rows.auditHoldsRow.named Rows.auditHoldsSpec.vars)=true:=by kernel_rfl
theorem auditHoldsFact5:((Rows.auditHoldsRow.stops==[]))=true:=by kernel_rfl
theorem auditHoldsFact6:((Tryz.prog.stops==[]))=true:=by kernel_rfl
theorem auditHoldsFact7:((Rows.auditHoldsRow.knobs==[]))=true:=by kernel_rfl
theorem auditHoldsFact8:((Tryz.prog.stopKnobs==[]))=true:=by kernel_rfl
theorem auditHoldsFact9:((Rows.auditHoldsRow.inPlace==Tryz.prog.inPlace 3))=true:=by kernel_rfl
theorem auditHoldsFact10:((Rows.auditHoldsRow.unfollowed==Tryz.prog.unfollowed 3))=true:=by kernel_rfl
theorem auditHoldsFact11:((Rows.auditHoldsRow.recurses==Tryz.prog.recurses 3))=true:=by kernel_rfl
theorem auditHoldsFact12:((Rows.auditHoldsRow.named==Tryz.prog.varsNamed 3))=true:=by kernel_rfl
theorem auditHoldsFact13:((Rows.auditHoldsRow.maps==(Tryz.f3.params.toList++Rows.auditHoldsSpec.plain.varTypes Tryz.prog).any (Tryz.prog.mapsRec ·)))=true:=by kernel_rfl
theorem auditHoldsFact14:((Rows.auditHoldsRow.ifaces==(Tryz.f3.params.toList++Rows.auditHoldsSpec.plain.varTypes Tryz.prog).any (Tryz.prog.ifacesRec ·)))=true:=by kernel_rfl
theorem auditHoldsFact15:((Rows.auditHoldsRow.mapsOut==Tryz.prog.mapsAmong Tryz.f3.resultTypes.toList))=true:=by kernel_rfl
theorem auditHoldsFact16:((Rows.auditHoldsRow.loops==(Tryz.f3.params.toList++Rows.auditHoldsSpec.plain.varTypes Tryz.prog).any (Tryz.prog.loopsFrom ·)))=true:=by kernel_rfl
theorem auditHoldsFact17:((Rows.auditHoldsRow.wideKeys==(Tryz.f3.params.toList++Rows.auditHoldsSpec.plain.varTypes Tryz.prog++Tryz.f3.resultTypes.toList).any (Tryz.prog.wideKeysFrom ·)))=true:=by kernel_rfl
theorem auditHoldsFact18:(Rows.auditHoldsSpec.vars.all (Tryz.prog.varReadable ·))=true:=by kernel_rfl
theorem auditHoldsFact19:(Tryz.f3.resultTypes.all (fun t=>Tryz.prog.readableRec t&&decide (t < Tryz.prog.types.size)))=true:=by kernel_rfl
theorem auditHoldsFact20:((Rows.auditHoldsRow.ifacesOut==Tryz.f3.resultTypes.toList.any (Tryz.prog.ifacesRec ·)))=true:=by kernel_rfl
theorem auditHoldsFact21:((Rows.auditHoldsRow.loopsOut==Tryz.f3.resultTypes.toList.any (Tryz.prog.loopsFrom ·)))=true:=by kernel_rfl
theorem auditHoldsFact22:((Rows.auditHoldsRow.plainKeys==Tryz.prog.plainKeys))=true:=by kernel_rfl
theorem auditHoldsFact23:(Rows.auditHoldsRow.shortTexts.isNone)=true:=by kernel_rfl
theorem auditHoldsFact24:(Tryz.prog.stopsHeard)=true:=by kernel_rfl
theorem auditHoldsFact25:(Tryz.prog.mayEnter)=true:=by kernel_rfl
theorem auditHoldsFact26:((Rows.auditHoldsRow.lifted==Tryz.prog.liftsFinal))=true:=by kernel_rfl
theorem auditHoldsFact27:((Tryz.prog.make==some Rows.auditHoldsRow.make))=true:=by kernel_rfl
theorem auditHoldsFact28:((Rows.auditHoldsRow.kinds==(if Rows.auditHoldsRow.domain.isEmpty then [] else Tryz.f3.params.toList.map fun t=>match Tryz.prog.underlying t with | some (.int k)=>some k | _=>none)))=true:=by kernel_rfl
theorem auditHoldsFact29:((Rows.auditHoldsRow.pinned==Rows.auditHoldsRow.pinnedBy))=true:=by kernel_rfl
theorem auditHoldsFact30:((Rows.auditHoldsRow.veiled==(Tryz.f3.params.toList++Rows.auditHoldsSpec.plain.varTypes Tryz.prog++Tryz.f3.resultTypes.toList).any (Tryz.prog.veiledRec ·)))=true:=by kernel_rfl
theorem auditHoldsFact31:(Rows.auditHoldsRow.veiledFits Tryz.prog Tryz.f3.params.toList (Tryz.f3.params.toList++Rows.auditHoldsSpec.plain.varTypes Tryz.prog++Tryz.f3.resultTypes.toList))=true:=by kernel_rfl
theorem auditHoldsAnd {a b:Bool} (h1:a=true) (h2:b=true):(a&&b)=true:=by rw [h1,h2];rfl
set_option maxRecDepth 100000 in
theorem auditHoldsJoined:joinedFacts Tryz.prog 3 Tryz.f3 Rows.auditHoldsSpec Rows.auditHoldsRow=true:=by
 unfold joinedFacts;exact (auditHoldsAnd (auditHoldsAnd (auditHoldsAnd (auditHoldsAnd (auditHoldsAnd (auditHoldsAnd (auditHoldsAnd (auditHoldsAnd (auditHoldsAnd (auditHoldsAnd (auditHoldsAnd (auditHoldsAnd (auditHoldsAnd (auditHoldsAnd (auditHoldsAnd (auditHoldsAnd (auditHoldsAnd (auditHoldsAnd (auditHoldsAnd (auditHoldsAnd (auditHoldsAnd (auditHoldsAnd (auditHoldsAnd (auditHoldsAnd (auditHoldsAnd (auditHoldsAnd (auditHoldsAnd (auditHoldsAnd (auditHoldsAnd (auditHoldsAnd (auditHoldsAnd auditHoldsFact0 auditHoldsFact1) auditHoldsFact2) auditHoldsFact3) auditHoldsFact4) auditHoldsFact5) auditHoldsFact6) auditHoldsFact7) auditHoldsFact8) auditHoldsFact9) auditHoldsFact10) auditHoldsFact11) auditHoldsFact12) auditHoldsFact13) auditHoldsFact14) auditHoldsFact15) auditHoldsFact16) auditHoldsFact17) auditHoldsFact18) auditHoldsFact19) auditHoldsFact20) auditHoldsFact21) auditHoldsFact22) auditHoldsFact23) auditHoldsFact24) auditHoldsFact25) auditHoldsFact26) auditHoldsFact27) auditHoldsFact28) auditHoldsFact29) auditHoldsFact30) auditHoldsFact31)
theorem auditHoldsNamed:Tryz.prog.funcNamed Rows.auditHoldsRow.func=some 3:=by kernel_rfl
theorem auditHoldsInst:decide (Tryz.f3.isInstance Tryz.prog Rows.auditHoldsRow.origin Rows.auditHoldsRow.targs)=true:=by kernel_rfl
set_option maxHeartbeats 2000000 in
theorem auditHoldsWrap:Tryz.f3.isWrapper Tryz.prog Rows.auditHoldsRow.wrapper Rows.auditHoldsRow.mainSum:=by
 unfold Func.isWrapper;first | (rw [if_pos (by decide +kernel)];kernel_rfl) | (rw [if_neg (by decide +kernel)];exact ⟨rfl,rfl⟩)
end Go.Proofs.YtgnhdbdipfncgaaGreat
