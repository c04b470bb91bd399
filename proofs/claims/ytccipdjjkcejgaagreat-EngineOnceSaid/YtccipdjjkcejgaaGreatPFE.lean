/- The closed facts of EngineOnce's row; no theorem of a claim. -/
import Derived.Test.YtccipdjjkcejgaaGreatChecked
import Derived.Test.YtccipdjjkcejgaaGreatRows
import Derived.JoinedOf
import Derived.Test.YtccipdjjkcejgaaGreatAB
set_option linter.unusedSimpArgs false
set_option linter.unusedVariables false
namespace Go.Proofs.YtccipdjjkcejgaaGreat
open Go.ChangeShapes Go.WideShapes Go.ChangeAt Go.RowKit Go.Abs
theorem HV : (Rows.engineOnceRow.wf (OpenSpec.ofChange Rows.engineOnceSpec)) = true := by kernel_rfl
theorem HW : (laidOutB Tryz.prog) = true := by kernel_rfl
theorem HX : (mapsRowed Tryz.prog) = true := by kernel_rfl
theorem HY : (Tryz.f11.params.all (Tryz.prog.readableRec ·)) = true := by kernel_rfl
theorem HZ : (namedTie Tryz.prog Rows.engineOnceRow.named Rows.engineOnceSpec.vars) = true := by kernel_rfl
theorem H6 : ((Rows.engineOnceRow.stops == [])) = true := by kernel_rfl
theorem H7 : ((Tryz.prog.stops == [])) = true := by kernel_rfl
theorem H8 : ((Rows.engineOnceRow.knobs == [])) = true := by kernel_rfl
theorem H9 : ((Tryz.prog.stopKnobs == [])) = true := by kernel_rfl
theorem Ia : ((Rows.engineOnceRow.inPlace == Tryz.prog.inPlace 11)) = true := by kernel_rfl
theorem Fq : ((Rows.engineOnceRow.unfollowed == Tryz.prog.unfollowed 11)) = true := by kernel_rfl
theorem Ft : ((Rows.engineOnceRow.recurses == Tryz.prog.recurses 11)) = true := by kernel_rfl
theorem Fu : ((Rows.engineOnceRow.named == Tryz.prog.varsNamed 11)) = true := by kernel_rfl
theorem Fv : ((Rows.engineOnceRow.maps == (Tryz.f11.params.toList ++ Rows.engineOnceSpec.plain.varTypes Tryz.prog).any (Tryz.prog.mapsRec ·))) = true := by kernel_rfl
theorem Fw : ((Rows.engineOnceRow.ifaces == (Tryz.f11.params.toList ++ Rows.engineOnceSpec.plain.varTypes Tryz.prog).any (Tryz.prog.ifacesRec ·))) = true := by kernel_rfl
theorem Fx : ((Rows.engineOnceRow.mapsOut == Tryz.prog.mapsAmong Tryz.f11.resultTypes.toList)) = true := by kernel_rfl
theorem Fy : ((Rows.engineOnceRow.loops == (Tryz.f11.params.toList ++ Rows.engineOnceSpec.plain.varTypes Tryz.prog).any (Tryz.prog.loopsFrom ·))) = true := by kernel_rfl
theorem Fz : ((Rows.engineOnceRow.wideKeys == (Tryz.f11.params.toList ++ Rows.engineOnceSpec.plain.varTypes Tryz.prog ++ Tryz.f11.resultTypes.toList).any (Tryz.prog.wideKeysFrom ·))) = true := by kernel_rfl
theorem FA : (Rows.engineOnceSpec.vars.all (Tryz.prog.varReadable ·)) = true := by kernel_rfl
theorem FB : (Tryz.f11.resultTypes.all (fun t => Tryz.prog.readableRec t && decide (t < Tryz.prog.types.size))) = true := by kernel_rfl
theorem FC : ((Rows.engineOnceRow.ifacesOut == Tryz.f11.resultTypes.toList.any (Tryz.prog.ifacesRec ·))) = true := by kernel_rfl
theorem FD : ((Rows.engineOnceRow.loopsOut == Tryz.f11.resultTypes.toList.any (Tryz.prog.loopsFrom ·))) = true := by kernel_rfl
theorem FE : ((Rows.engineOnceRow.plainKeys == Tryz.prog.plainKeys)) = true := by kernel_rfl
theorem FF : (Rows.engineOnceRow.shortTexts.isNone) = true := by kernel_rfl
theorem FG : (Tryz.prog.stopsHeard) = true := by kernel_rfl
theorem FH : (Tryz.prog.mayEnter) = true := by kernel_rfl
theorem FI : ((Rows.engineOnceRow.lifted == Tryz.prog.liftsFinal)) = true := by kernel_rfl
theorem FJ : ((Tryz.prog.make == some Rows.engineOnceRow.make)) = true := by kernel_rfl
theorem FK : ((Rows.engineOnceRow.kinds == (if Rows.engineOnceRow.domain.isEmpty then [] else Tryz.f11.params.toList.map fun t => match Tryz.prog.underlying t with | some (.int k) => some k | _ => none))) = true := by kernel_rfl
theorem FL : ((Rows.engineOnceRow.pinned == Rows.engineOnceRow.pinnedBy)) = true := by kernel_rfl
theorem FM : ((Rows.engineOnceRow.veiled == (Tryz.f11.params.toList ++ Rows.engineOnceSpec.plain.varTypes Tryz.prog ++ Tryz.f11.resultTypes.toList).any (Tryz.prog.veiledRec ·))) = true := by kernel_rfl
theorem FN : (Rows.engineOnceRow.veiledFits Tryz.prog Tryz.f11.params.toList (Tryz.f11.params.toList ++ Rows.engineOnceSpec.plain.varTypes Tryz.prog ++ Tryz.f11.resultTypes.toList)) = true := by kernel_rfl
theorem bn {a b : Bool} (c : a = true) (d : b = true) : (a && b) = true := by rw [c, d]; rfl
set_option maxRecDepth 100000 in
theorem FO : joinedFacts Tryz.prog 11 Tryz.f11 Rows.engineOnceSpec Rows.engineOnceRow = true := by
  unfold joinedFacts
  exact (bn (bn (bn (bn (bn (bn (bn (bn (bn (bn (bn (bn (bn (bn (bn (bn (bn (bn (bn (bn (bn (bn (bn (bn (bn (bn (bn (bn (bn (bn (bn HV HW) HX) HY) HZ) H6) H7) H8) H9) Ia) Fq) Ft) Fu) Fv) Fw) Fx) Fy) Fz) FA) FB) FC) FD) FE) FF) FG) FH) FI) FJ) FK) FL) FM) FN)
theorem Ib : Tryz.prog.funcNamed Rows.engineOnceRow.func = some 11 := by kernel_rfl
theorem JW : decide (Tryz.f11.isInstance Tryz.prog Rows.engineOnceRow.origin Rows.engineOnceRow.targs) = true := by kernel_rfl
set_option maxHeartbeats 2000000 in
theorem JX : Tryz.f11.isWrapper Tryz.prog Rows.engineOnceRow.wrapper Rows.engineOnceRow.mainSum := by
  unfold Func.isWrapper; first | (rw [if_pos (by decide +kernel)]; kernel_rfl) | (rw [if_neg (by decide +kernel)]; exact ⟨rfl, rfl⟩)
end Go.Proofs.YtccipdjjkcejgaaGreat
