/- The closed facts of EngineTwins's row; no theorem of a claim. -/
import Derived.Test.YtccipdjjkcejgaaGreatChecked
import Derived.Test.YtccipdjjkcejgaaGreatRows
import Derived.JoinedOf
import Derived.Test.YtccipdjjkcejgaaGreatAB
set_option linter.unusedSimpArgs false
set_option linter.unusedVariables false
namespace Go.Proofs.YtccipdjjkcejgaaGreat
open Go.ChangeShapes Go.WideShapes Go.ChangeAt Go.RowKit Go.Abs
theorem FQ : (Rows.engineTwinsRow.wf (OpenSpec.ofChange Rows.engineTwinsSpec)) = true := by kernel_rfl
theorem FR : (laidOutB Tryz.prog) = true := by kernel_rfl
theorem FU : (mapsRowed Tryz.prog) = true := by kernel_rfl
theorem FV : (Tryz.f7.params.all (Tryz.prog.readableRec ·)) = true := by kernel_rfl
theorem FW : (namedTie Tryz.prog Rows.engineTwinsRow.named Rows.engineTwinsSpec.vars) = true := by kernel_rfl
theorem FX : ((Rows.engineTwinsRow.stops == [])) = true := by kernel_rfl
theorem FY : ((Tryz.prog.stops == [])) = true := by kernel_rfl
theorem FZ : ((Rows.engineTwinsRow.knobs == [])) = true := by kernel_rfl
theorem F0 : ((Tryz.prog.stopKnobs == [])) = true := by kernel_rfl
theorem F3 : ((Rows.engineTwinsRow.inPlace == Tryz.prog.inPlace 7)) = true := by kernel_rfl
theorem C2 : ((Rows.engineTwinsRow.unfollowed == Tryz.prog.unfollowed 7)) = true := by kernel_rfl
theorem C3 : ((Rows.engineTwinsRow.recurses == Tryz.prog.recurses 7)) = true := by kernel_rfl
theorem C4 : ((Rows.engineTwinsRow.named == Tryz.prog.varsNamed 7)) = true := by kernel_rfl
theorem C5 : ((Rows.engineTwinsRow.maps == (Tryz.f7.params.toList ++ Rows.engineTwinsSpec.plain.varTypes Tryz.prog).any (Tryz.prog.mapsRec ·))) = true := by kernel_rfl
theorem C6 : ((Rows.engineTwinsRow.ifaces == (Tryz.f7.params.toList ++ Rows.engineTwinsSpec.plain.varTypes Tryz.prog).any (Tryz.prog.ifacesRec ·))) = true := by kernel_rfl
theorem C7 : ((Rows.engineTwinsRow.mapsOut == Tryz.prog.mapsAmong Tryz.f7.resultTypes.toList)) = true := by kernel_rfl
theorem C8 : ((Rows.engineTwinsRow.loops == (Tryz.f7.params.toList ++ Rows.engineTwinsSpec.plain.varTypes Tryz.prog).any (Tryz.prog.loopsFrom ·))) = true := by kernel_rfl
theorem C9 : ((Rows.engineTwinsRow.wideKeys == (Tryz.f7.params.toList ++ Rows.engineTwinsSpec.plain.varTypes Tryz.prog ++ Tryz.f7.resultTypes.toList).any (Tryz.prog.wideKeysFrom ·))) = true := by kernel_rfl
theorem Da : (Rows.engineTwinsSpec.vars.all (Tryz.prog.varReadable ·)) = true := by kernel_rfl
theorem Db : (Tryz.f7.resultTypes.all (fun t => Tryz.prog.readableRec t && decide (t < Tryz.prog.types.size))) = true := by kernel_rfl
theorem Dc : ((Rows.engineTwinsRow.ifacesOut == Tryz.f7.resultTypes.toList.any (Tryz.prog.ifacesRec ·))) = true := by kernel_rfl
theorem Dd : ((Rows.engineTwinsRow.loopsOut == Tryz.f7.resultTypes.toList.any (Tryz.prog.loopsFrom ·))) = true := by kernel_rfl
theorem De : ((Rows.engineTwinsRow.plainKeys == Tryz.prog.plainKeys)) = true := by kernel_rfl
theorem Df : (Rows.engineTwinsRow.shortTexts.isNone) = true := by kernel_rfl
theorem Dg : (Tryz.prog.stopsHeard) = true := by kernel_rfl
theorem Dh : (Tryz.prog.mayEnter) = true := by kernel_rfl
theorem Di : ((Rows.engineTwinsRow.lifted == Tryz.prog.liftsFinal)) = true := by kernel_rfl
theorem Dj : ((Tryz.prog.make == some Rows.engineTwinsRow.make)) = true := by kernel_rfl
theorem Dk : ((Rows.engineTwinsRow.kinds == (if Rows.engineTwinsRow.domain.isEmpty then [] else Tryz.f7.params.toList.map fun t => match Tryz.prog.underlying t with | some (.int k) => some k | _ => none))) = true := by kernel_rfl
theorem Dl : ((Rows.engineTwinsRow.pinned == Rows.engineTwinsRow.pinnedBy)) = true := by kernel_rfl
theorem Dm : ((Rows.engineTwinsRow.veiled == (Tryz.f7.params.toList ++ Rows.engineTwinsSpec.plain.varTypes Tryz.prog ++ Tryz.f7.resultTypes.toList).any (Tryz.prog.veiledRec ·))) = true := by kernel_rfl
theorem Dn : (Rows.engineTwinsRow.veiledFits Tryz.prog Tryz.f7.params.toList (Tryz.f7.params.toList ++ Rows.engineTwinsSpec.plain.varTypes Tryz.prog ++ Tryz.f7.resultTypes.toList)) = true := by kernel_rfl
theorem aY {a b : Bool} (c : a = true) (d : b = true) : (a && b) = true := by rw [c, d]; rfl
set_option maxRecDepth 100000 in
theorem Dp : joinedFacts Tryz.prog 7 Tryz.f7 Rows.engineTwinsSpec Rows.engineTwinsRow = true := by
  unfold joinedFacts
  exact (aY (aY (aY (aY (aY (aY (aY (aY (aY (aY (aY (aY (aY (aY (aY (aY (aY (aY (aY (aY (aY (aY (aY (aY (aY (aY (aY (aY (aY (aY (aY FQ FR) FU) FV) FW) FX) FY) FZ) F0) F3) C2) C3) C4) C5) C6) C7) C8) C9) Da) Db) Dc) Dd) De) Df) Dg) Dh) Di) Dj) Dk) Dl) Dm) Dn)
theorem F4 : Tryz.prog.funcNamed Rows.engineTwinsRow.func = some 7 := by kernel_rfl
theorem Ic : decide (Tryz.f7.isInstance Tryz.prog Rows.engineTwinsRow.origin Rows.engineTwinsRow.targs) = true := by kernel_rfl
set_option maxHeartbeats 2000000 in
theorem Ie : Tryz.f7.isWrapper Tryz.prog Rows.engineTwinsRow.wrapper Rows.engineTwinsRow.mainSum := by
  unfold Func.isWrapper; first | (rw [if_pos (by decide +kernel)]; kernel_rfl) | (rw [if_neg (by decide +kernel)]; exact ⟨rfl, rfl⟩)
end Go.Proofs.YtccipdjjkcejgaaGreat
