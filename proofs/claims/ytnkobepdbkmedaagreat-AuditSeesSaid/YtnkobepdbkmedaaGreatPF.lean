/- The closed facts of AuditSees's row; no theorem of a claim. -/
import Derived.Test.YtnkobepdbkmedaaGreatChecked
import Derived.Test.YtnkobepdbkmedaaGreatRows
import Derived.JoinedOf
import Derived.Test.YtnkobepdbkmedaaGreatAbcLaw
set_option linter.unusedSimpArgs false
set_option linter.unusedVariables false
namespace Go.Proofs.YtnkobepdbkmedaaGreat
open Go.ChangeShapes Go.WideShapes Go.ChangeAt Go.RowKit Go.Abs
theorem Ch : (Rows.auditSeesRow.wf (OpenSpec.ofChange Rows.auditSeesSpec)) = true := by kernel_rfl
theorem Bq : (laidOutB Tryz.prog) = true := by kernel_rfl
theorem Bt : (mapsRowed Tryz.prog) = true := by kernel_rfl
theorem AX : (Tryz.f3.params.all (Tryz.prog.readableRec ·)) = true := by kernel_rfl
theorem Bn : (namedTie Tryz.prog Rows.auditSeesRow.named Rows.auditSeesSpec.vars) = true := by kernel_rfl
theorem Cm : ((Rows.auditSeesRow.stops == [])) = true := by kernel_rfl
theorem Dv : ((Tryz.prog.stops == [])) = true := by kernel_rfl
theorem CQ : ((Rows.auditSeesRow.knobs == [])) = true := by kernel_rfl
theorem CP : ((Tryz.prog.stopKnobs == [])) = true := by kernel_rfl
theorem A9 : ((Rows.auditSeesRow.inPlace == Tryz.prog.inPlace 3)) = true := by kernel_rfl
theorem zW : ((Rows.auditSeesRow.unfollowed == Tryz.prog.unfollowed 3)) = true := by kernel_rfl
theorem Aw : ((Rows.auditSeesRow.recurses == Tryz.prog.recurses 3)) = true := by kernel_rfl
theorem Al : ((Rows.auditSeesRow.named == Tryz.prog.varsNamed 3)) = true := by kernel_rfl
theorem Aj : ((Rows.auditSeesRow.maps == (Tryz.f3.params.toList ++ Rows.auditSeesSpec.plain.varTypes Tryz.prog).any (Tryz.prog.mapsRec ·))) = true := by kernel_rfl
theorem zA : ((Rows.auditSeesRow.ifaces == (Tryz.f3.params.toList ++ Rows.auditSeesSpec.plain.varTypes Tryz.prog).any (Tryz.prog.ifacesRec ·))) = true := by kernel_rfl
theorem zN : ((Rows.auditSeesRow.mapsOut == Tryz.prog.mapsAmong Tryz.f3.resultTypes.toList)) = true := by kernel_rfl
theorem Ak : ((Rows.auditSeesRow.loops == (Tryz.f3.params.toList ++ Rows.auditSeesSpec.plain.varTypes Tryz.prog).any (Tryz.prog.loopsFrom ·))) = true := by kernel_rfl
theorem Ab : ((Rows.auditSeesRow.wideKeys == (Tryz.f3.params.toList ++ Rows.auditSeesSpec.plain.varTypes Tryz.prog ++ Tryz.f3.resultTypes.toList).any (Tryz.prog.wideKeysFrom ·))) = true := by kernel_rfl
theorem zO : (Rows.auditSeesSpec.vars.all (Tryz.prog.varReadable ·)) = true := by kernel_rfl
theorem AA : (Tryz.f3.resultTypes.all (fun t => Tryz.prog.readableRec t && decide (t < Tryz.prog.types.size))) = true := by kernel_rfl
theorem zE : ((Rows.auditSeesRow.ifacesOut == Tryz.f3.resultTypes.toList.any (Tryz.prog.ifacesRec ·))) = true := by kernel_rfl
theorem Am : ((Rows.auditSeesRow.loopsOut == Tryz.f3.resultTypes.toList.any (Tryz.prog.loopsFrom ·))) = true := by kernel_rfl
theorem Aq : ((Rows.auditSeesRow.plainKeys == Tryz.prog.plainKeys)) = true := by kernel_rfl
theorem zM : (Rows.auditSeesRow.shortTexts.isNone) = true := by kernel_rfl
theorem zK : (Tryz.prog.stopsHeard) = true := by kernel_rfl
theorem zD : (Tryz.prog.mayEnter) = true := by kernel_rfl
theorem zX : ((Rows.auditSeesRow.lifted == Tryz.prog.liftsFinal)) = true := by kernel_rfl
theorem As : ((Tryz.prog.make == some Rows.auditSeesRow.make)) = true := by kernel_rfl
theorem zQ : ((Rows.auditSeesRow.kinds == (if Rows.auditSeesRow.domain.isEmpty then [] else Tryz.f3.params.toList.map fun t => match Tryz.prog.underlying t with | some (.int k) => some k | _ => none))) = true := by kernel_rfl
theorem Ao : ((Rows.auditSeesRow.pinned == Rows.auditSeesRow.pinnedBy)) = true := by kernel_rfl
theorem zI : ((Rows.auditSeesRow.veiled == (Tryz.f3.params.toList ++ Rows.auditSeesSpec.plain.varTypes Tryz.prog ++ Tryz.f3.resultTypes.toList).any (Tryz.prog.veiledRec ·))) = true := by kernel_rfl
theorem zV : (Rows.auditSeesRow.veiledFits Tryz.prog Tryz.f3.params.toList (Tryz.f3.params.toList ++ Rows.auditSeesSpec.plain.varTypes Tryz.prog ++ Tryz.f3.resultTypes.toList)) = true := by kernel_rfl
theorem aS {a b : Bool} (h1 : a = true) (h2 : b = true) : (a && b) = true := by rw [h1, h2]; rfl
set_option maxRecDepth 100000 in
theorem AB : joinedFacts Tryz.prog 3 Tryz.f3 Rows.auditSeesSpec Rows.auditSeesRow = true := by
  unfold joinedFacts
  exact (aS (aS (aS (aS (aS (aS (aS (aS (aS (aS (aS (aS (aS (aS (aS (aS (aS (aS (aS (aS (aS (aS (aS (aS (aS (aS (aS (aS (aS (aS (aS Ch Bq) Bt) AX) Bn) Cm) Dv) CQ) CP) A9) zW) Aw) Al) Aj) zA) zN) Ak) Ab) zO) AA) zE) Am) Aq) zM) zK) zD) zX) As) zQ) Ao) zI) zV)
theorem AS : Tryz.prog.funcNamed Rows.auditSeesRow.func = some 3 := by kernel_rfl
theorem DK : decide (Tryz.f3.isInstance Tryz.prog Rows.auditSeesRow.origin Rows.auditSeesRow.targs) = true := by kernel_rfl
set_option maxHeartbeats 2000000 in
theorem DC : Tryz.f3.isWrapper Tryz.prog Rows.auditSeesRow.wrapper Rows.auditSeesRow.mainSum := by
  unfold Func.isWrapper; first | (rw [if_pos (by decide +kernel)]; kernel_rfl) | (rw [if_neg (by decide +kernel)]; exact ⟨rfl, rfl⟩)
end Go.Proofs.YtnkobepdbkmedaaGreat
