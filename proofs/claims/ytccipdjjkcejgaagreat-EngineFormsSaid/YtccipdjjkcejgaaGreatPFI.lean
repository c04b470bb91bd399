/- The closed facts of EngineForms's row; no theorem of a claim. -/
import Derived.Test.YtccipdjjkcejgaaGreatChecked
import Derived.Test.YtccipdjjkcejgaaGreatRows
import Derived.JoinedOf
import Derived.Test.YtccipdjjkcejgaaGreatAB
set_option linter.unusedSimpArgs false
set_option linter.unusedVariables false
namespace Go.Proofs.YtccipdjjkcejgaaGreat
open Go.ChangeShapes Go.WideShapes Go.ChangeAt Go.RowKit Go.Abs
theorem Fe : (Rows.engineFormsRow.wf (OpenSpec.ofChange Rows.engineFormsSpec)) = true := by kernel_rfl
theorem Ff : (laidOutB Tryz.prog) = true := by kernel_rfl
theorem Fg : (mapsRowed Tryz.prog) = true := by kernel_rfl
theorem Fh : (Tryz.f12.params.all (Tryz.prog.readableRec ·)) = true := by kernel_rfl
theorem Fi : (namedTie Tryz.prog Rows.engineFormsRow.named Rows.engineFormsSpec.vars) = true := by kernel_rfl
theorem Fj : ((Rows.engineFormsRow.stops == [])) = true := by kernel_rfl
theorem Fk : ((Tryz.prog.stops == [])) = true := by kernel_rfl
theorem Fl : ((Rows.engineFormsRow.knobs == [])) = true := by kernel_rfl
theorem Fm : ((Tryz.prog.stopKnobs == [])) = true := by kernel_rfl
theorem Fo : ((Rows.engineFormsRow.inPlace == Tryz.prog.inPlace 12)) = true := by kernel_rfl
theorem CB : ((Rows.engineFormsRow.unfollowed == Tryz.prog.unfollowed 12)) = true := by kernel_rfl
theorem CC : ((Rows.engineFormsRow.recurses == Tryz.prog.recurses 12)) = true := by kernel_rfl
theorem CD : ((Rows.engineFormsRow.named == Tryz.prog.varsNamed 12)) = true := by kernel_rfl
theorem CE : ((Rows.engineFormsRow.maps == (Tryz.f12.params.toList ++ Rows.engineFormsSpec.plain.varTypes Tryz.prog).any (Tryz.prog.mapsRec ·))) = true := by kernel_rfl
theorem CF : ((Rows.engineFormsRow.ifaces == (Tryz.f12.params.toList ++ Rows.engineFormsSpec.plain.varTypes Tryz.prog).any (Tryz.prog.ifacesRec ·))) = true := by kernel_rfl
theorem CG : ((Rows.engineFormsRow.mapsOut == Tryz.prog.mapsAmong Tryz.f12.resultTypes.toList)) = true := by kernel_rfl
theorem CH : ((Rows.engineFormsRow.loops == (Tryz.f12.params.toList ++ Rows.engineFormsSpec.plain.varTypes Tryz.prog).any (Tryz.prog.loopsFrom ·))) = true := by kernel_rfl
theorem CI : ((Rows.engineFormsRow.wideKeys == (Tryz.f12.params.toList ++ Rows.engineFormsSpec.plain.varTypes Tryz.prog ++ Tryz.f12.resultTypes.toList).any (Tryz.prog.wideKeysFrom ·))) = true := by kernel_rfl
theorem CJ : (Rows.engineFormsSpec.vars.all (Tryz.prog.varReadable ·)) = true := by kernel_rfl
theorem CK : (Tryz.f12.resultTypes.all (fun t => Tryz.prog.readableRec t && decide (t < Tryz.prog.types.size))) = true := by kernel_rfl
theorem CL : ((Rows.engineFormsRow.ifacesOut == Tryz.f12.resultTypes.toList.any (Tryz.prog.ifacesRec ·))) = true := by kernel_rfl
theorem CM : ((Rows.engineFormsRow.loopsOut == Tryz.f12.resultTypes.toList.any (Tryz.prog.loopsFrom ·))) = true := by kernel_rfl
theorem CN : ((Rows.engineFormsRow.plainKeys == Tryz.prog.plainKeys)) = true := by kernel_rfl
theorem CO : (Rows.engineFormsRow.shortTexts.isNone) = true := by kernel_rfl
theorem CP : (Tryz.prog.stopsHeard) = true := by kernel_rfl
theorem CQ : (Tryz.prog.mayEnter) = true := by kernel_rfl
theorem CR : ((Rows.engineFormsRow.lifted == Tryz.prog.liftsFinal)) = true := by kernel_rfl
theorem CS : ((Tryz.prog.make == some Rows.engineFormsRow.make)) = true := by kernel_rfl
theorem CT : ((Rows.engineFormsRow.kinds == (if Rows.engineFormsRow.domain.isEmpty then [] else Tryz.f12.params.toList.map fun t => match Tryz.prog.underlying t with | some (.int k) => some k | _ => none))) = true := by kernel_rfl
theorem CU : ((Rows.engineFormsRow.pinned == Rows.engineFormsRow.pinnedBy)) = true := by kernel_rfl
theorem CV : ((Rows.engineFormsRow.veiled == (Tryz.f12.params.toList ++ Rows.engineFormsSpec.plain.varTypes Tryz.prog ++ Tryz.f12.resultTypes.toList).any (Tryz.prog.veiledRec ·))) = true := by kernel_rfl
theorem CW : (Rows.engineFormsRow.veiledFits Tryz.prog Tryz.f12.params.toList (Tryz.f12.params.toList ++ Rows.engineFormsSpec.plain.varTypes Tryz.prog ++ Tryz.f12.resultTypes.toList)) = true := by kernel_rfl
theorem aX {a b : Bool} (c : a = true) (d : b = true) : (a && b) = true := by rw [c, d]; rfl
set_option maxRecDepth 100000 in
theorem CX : joinedFacts Tryz.prog 12 Tryz.f12 Rows.engineFormsSpec Rows.engineFormsRow = true := by
  unfold joinedFacts
  exact (aX (aX (aX (aX (aX (aX (aX (aX (aX (aX (aX (aX (aX (aX (aX (aX (aX (aX (aX (aX (aX (aX (aX (aX (aX (aX (aX (aX (aX (aX (aX Fe Ff) Fg) Fh) Fi) Fj) Fk) Fl) Fm) Fo) CB) CC) CD) CE) CF) CG) CH) CI) CJ) CK) CL) CM) CN) CO) CP) CQ) CR) CS) CT) CU) CV) CW)
theorem Fp : Tryz.prog.funcNamed Rows.engineFormsRow.func = some 12 := by kernel_rfl
theorem HT : decide (Tryz.f12.isInstance Tryz.prog Rows.engineFormsRow.origin Rows.engineFormsRow.targs) = true := by kernel_rfl
set_option maxHeartbeats 2000000 in
theorem HU : Tryz.f12.isWrapper Tryz.prog Rows.engineFormsRow.wrapper Rows.engineFormsRow.mainSum := by
  unfold Func.isWrapper; first | (rw [if_pos (by decide +kernel)]; kernel_rfl) | (rw [if_neg (by decide +kernel)]; exact ⟨rfl, rfl⟩)
end Go.Proofs.YtccipdjjkcejgaaGreat
