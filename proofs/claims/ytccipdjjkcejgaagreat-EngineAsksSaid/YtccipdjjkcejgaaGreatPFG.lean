/- The closed facts of EngineAsks's row; no theorem of a claim. -/
import Derived.Test.YtccipdjjkcejgaaGreatChecked
import Derived.Test.YtccipdjjkcejgaaGreatRows
import Derived.JoinedOf
import Derived.Test.YtccipdjjkcejgaaGreatAB
set_option linter.unusedSimpArgs false
set_option linter.unusedVariables false
namespace Go.Proofs.YtccipdjjkcejgaaGreat
open Go.ChangeShapes Go.WideShapes Go.ChangeAt Go.RowKit Go.Abs
theorem HI : (Rows.engineAsksRow.wf (OpenSpec.ofChange Rows.engineAsksSpec)) = true := by kernel_rfl
theorem HJ : (laidOutB Tryz.prog) = true := by kernel_rfl
theorem HK : (mapsRowed Tryz.prog) = true := by kernel_rfl
theorem HL : (Tryz.f6.params.all (Tryz.prog.readableRec ·)) = true := by kernel_rfl
theorem HM : (namedTie Tryz.prog Rows.engineAsksRow.named Rows.engineAsksSpec.vars) = true := by kernel_rfl
theorem HN : ((Rows.engineAsksRow.stops == [])) = true := by kernel_rfl
theorem HO : ((Tryz.prog.stops == [])) = true := by kernel_rfl
theorem HP : ((Rows.engineAsksRow.knobs == [])) = true := by kernel_rfl
theorem HQ : ((Tryz.prog.stopKnobs == [])) = true := by kernel_rfl
theorem HR : ((Rows.engineAsksRow.inPlace == Tryz.prog.inPlace 6)) = true := by kernel_rfl
theorem EK : ((Rows.engineAsksRow.unfollowed == Tryz.prog.unfollowed 6)) = true := by kernel_rfl
theorem EM : ((Rows.engineAsksRow.recurses == Tryz.prog.recurses 6)) = true := by kernel_rfl
theorem EN : ((Rows.engineAsksRow.named == Tryz.prog.varsNamed 6)) = true := by kernel_rfl
theorem EO : ((Rows.engineAsksRow.maps == (Tryz.f6.params.toList ++ Rows.engineAsksSpec.plain.varTypes Tryz.prog).any (Tryz.prog.mapsRec ·))) = true := by kernel_rfl
theorem EP : ((Rows.engineAsksRow.ifaces == (Tryz.f6.params.toList ++ Rows.engineAsksSpec.plain.varTypes Tryz.prog).any (Tryz.prog.ifacesRec ·))) = true := by kernel_rfl
theorem ER : ((Rows.engineAsksRow.mapsOut == Tryz.prog.mapsAmong Tryz.f6.resultTypes.toList)) = true := by kernel_rfl
theorem ES : ((Rows.engineAsksRow.loops == (Tryz.f6.params.toList ++ Rows.engineAsksSpec.plain.varTypes Tryz.prog).any (Tryz.prog.loopsFrom ·))) = true := by kernel_rfl
theorem ET : ((Rows.engineAsksRow.wideKeys == (Tryz.f6.params.toList ++ Rows.engineAsksSpec.plain.varTypes Tryz.prog ++ Tryz.f6.resultTypes.toList).any (Tryz.prog.wideKeysFrom ·))) = true := by kernel_rfl
theorem EU : (Rows.engineAsksSpec.vars.all (Tryz.prog.varReadable ·)) = true := by kernel_rfl
theorem EV : (Tryz.f6.resultTypes.all (fun t => Tryz.prog.readableRec t && decide (t < Tryz.prog.types.size))) = true := by kernel_rfl
theorem EW : ((Rows.engineAsksRow.ifacesOut == Tryz.f6.resultTypes.toList.any (Tryz.prog.ifacesRec ·))) = true := by kernel_rfl
theorem EX : ((Rows.engineAsksRow.loopsOut == Tryz.f6.resultTypes.toList.any (Tryz.prog.loopsFrom ·))) = true := by kernel_rfl
theorem EY : ((Rows.engineAsksRow.plainKeys == Tryz.prog.plainKeys)) = true := by kernel_rfl
theorem EZ : (Rows.engineAsksRow.shortTexts.isNone) = true := by kernel_rfl
theorem E2 : (Tryz.prog.stopsHeard) = true := by kernel_rfl
theorem E4 : (Tryz.prog.mayEnter) = true := by kernel_rfl
theorem E5 : ((Rows.engineAsksRow.lifted == Tryz.prog.liftsFinal)) = true := by kernel_rfl
theorem E6 : ((Tryz.prog.make == some Rows.engineAsksRow.make)) = true := by kernel_rfl
theorem E7 : ((Rows.engineAsksRow.kinds == (if Rows.engineAsksRow.domain.isEmpty then [] else Tryz.f6.params.toList.map fun t => match Tryz.prog.underlying t with | some (.int k) => some k | _ => none))) = true := by kernel_rfl
theorem E8 : ((Rows.engineAsksRow.pinned == Rows.engineAsksRow.pinnedBy)) = true := by kernel_rfl
theorem E9 : ((Rows.engineAsksRow.veiled == (Tryz.f6.params.toList ++ Rows.engineAsksSpec.plain.varTypes Tryz.prog ++ Tryz.f6.resultTypes.toList).any (Tryz.prog.veiledRec ·))) = true := by kernel_rfl
theorem Fa : (Rows.engineAsksRow.veiledFits Tryz.prog Tryz.f6.params.toList (Tryz.f6.params.toList ++ Rows.engineAsksSpec.plain.varTypes Tryz.prog ++ Tryz.f6.resultTypes.toList)) = true := by kernel_rfl
theorem bg {a b : Bool} (c : a = true) (d : b = true) : (a && b) = true := by rw [c, d]; rfl
set_option maxRecDepth 100000 in
theorem Fb : joinedFacts Tryz.prog 6 Tryz.f6 Rows.engineAsksSpec Rows.engineAsksRow = true := by
  unfold joinedFacts
  exact (bg (bg (bg (bg (bg (bg (bg (bg (bg (bg (bg (bg (bg (bg (bg (bg (bg (bg (bg (bg (bg (bg (bg (bg (bg (bg (bg (bg (bg (bg (bg HI HJ) HK) HL) HM) HN) HO) HP) HQ) HR) EK) EM) EN) EO) EP) ER) ES) ET) EU) EV) EW) EX) EY) EZ) E2) E4) E5) E6) E7) E8) E9) Fa)
theorem HS : Tryz.prog.funcNamed Rows.engineAsksRow.func = some 6 := by kernel_rfl
theorem JU : decide (Tryz.f6.isInstance Tryz.prog Rows.engineAsksRow.origin Rows.engineAsksRow.targs) = true := by kernel_rfl
set_option maxHeartbeats 2000000 in
theorem JV : Tryz.f6.isWrapper Tryz.prog Rows.engineAsksRow.wrapper Rows.engineAsksRow.mainSum := by
  unfold Func.isWrapper; first | (rw [if_pos (by decide +kernel)]; kernel_rfl) | (rw [if_neg (by decide +kernel)]; exact ⟨rfl, rfl⟩)
end Go.Proofs.YtccipdjjkcejgaaGreat
