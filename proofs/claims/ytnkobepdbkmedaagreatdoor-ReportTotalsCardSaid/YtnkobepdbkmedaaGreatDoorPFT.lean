/- The closed facts of ReportTotals's row; no theorem of a claim. -/
import Derived.Test.YtnkobepdbkmedaaGreatDoorChecked
import Derived.Test.YtnkobepdbkmedaaGreatDoorRows
import Derived.JoinedOf
import Derived.Test.YtnkobepdbkmedaaGreatDoorAbcLaw
set_option linter.unusedSimpArgs false
set_option linter.unusedVariables false
namespace Go.Proofs.YtnkobepdbkmedaaGreatDoor
open Go.ChangeShapes Go.WideShapes Go.ChangeAt Go.RowKit Go.Abs
theorem zA : (Rows.reportTotalsRow.wf (OpenSpec.ofChange Rows.reportTotalsSpec)) = true := by kernel_rfl
theorem As : (laidOutB Tryz.prog) = true := by kernel_rfl
theorem Br : (mapsRowed Tryz.prog) = true := by kernel_rfl
theorem AD : (Tryz.f4.params.all (Tryz.prog.readableRec ·)) = true := by kernel_rfl
theorem Ay : (namedTie Tryz.prog Rows.reportTotalsRow.named Rows.reportTotalsSpec.vars) = true := by kernel_rfl
theorem BA : ((Rows.reportTotalsRow.stops == [])) = true := by kernel_rfl
theorem zI : ((Tryz.prog.stops == [])) = true := by kernel_rfl
theorem AT : ((Rows.reportTotalsRow.knobs == [])) = true := by kernel_rfl
theorem Ai : ((Tryz.prog.stopKnobs == [])) = true := by kernel_rfl
theorem Bm : ((Rows.reportTotalsRow.inPlace == Tryz.prog.inPlace 4)) = true := by kernel_rfl
theorem xZ : ((Rows.reportTotalsRow.unfollowed == Tryz.prog.unfollowed 4)) = true := by kernel_rfl
theorem xW : ((Rows.reportTotalsRow.recurses == Tryz.prog.recurses 4)) = true := by kernel_rfl
theorem yB : ((Rows.reportTotalsRow.named == Tryz.prog.varsNamed 4)) = true := by kernel_rfl
theorem yH : ((Rows.reportTotalsRow.maps == (Tryz.f4.params.toList ++ Rows.reportTotalsSpec.plain.varTypes Tryz.prog).any (Tryz.prog.mapsRec ·))) = true := by kernel_rfl
theorem yT : ((Rows.reportTotalsRow.ifaces == (Tryz.f4.params.toList ++ Rows.reportTotalsSpec.plain.varTypes Tryz.prog).any (Tryz.prog.ifacesRec ·))) = true := by kernel_rfl
theorem yf : ((Rows.reportTotalsRow.mapsOut == Tryz.prog.mapsAmong Tryz.f4.resultTypes.toList)) = true := by kernel_rfl
theorem zb : ((Rows.reportTotalsRow.loops == (Tryz.f4.params.toList ++ Rows.reportTotalsSpec.plain.varTypes Tryz.prog).any (Tryz.prog.loopsFrom ·))) = true := by kernel_rfl
theorem yx : ((Rows.reportTotalsRow.wideKeys == (Tryz.f4.params.toList ++ Rows.reportTotalsSpec.plain.varTypes Tryz.prog ++ Tryz.f4.resultTypes.toList).any (Tryz.prog.wideKeysFrom ·))) = true := by kernel_rfl
theorem xX : (Rows.reportTotalsSpec.vars.all (Tryz.prog.varReadable ·)) = true := by kernel_rfl
theorem yF : (Tryz.f4.resultTypes.all (fun t => Tryz.prog.readableRec t && decide (t < Tryz.prog.types.size))) = true := by kernel_rfl
theorem xY : ((Rows.reportTotalsRow.ifacesOut == Tryz.f4.resultTypes.toList.any (Tryz.prog.ifacesRec ·))) = true := by kernel_rfl
theorem yp : ((Rows.reportTotalsRow.loopsOut == Tryz.f4.resultTypes.toList.any (Tryz.prog.loopsFrom ·))) = true := by kernel_rfl
theorem yG : ((Rows.reportTotalsRow.plainKeys == Tryz.prog.plainKeys)) = true := by kernel_rfl
theorem yh : (Rows.reportTotalsRow.shortTexts.isNone) = true := by kernel_rfl
theorem yP : (Tryz.prog.stopsHeard) = true := by kernel_rfl
theorem x7 : (Tryz.prog.mayEnter) = true := by kernel_rfl
theorem yz : ((Rows.reportTotalsRow.lifted == Tryz.prog.liftsFinal)) = true := by kernel_rfl
theorem yI : ((Tryz.prog.make == some Rows.reportTotalsRow.make)) = true := by kernel_rfl
theorem x5 : ((Rows.reportTotalsRow.kinds == (if Rows.reportTotalsRow.domain.isEmpty then [] else Tryz.f4.params.toList.map fun t => match Tryz.prog.underlying t with | some (.int k) => some k | _ => none))) = true := by kernel_rfl
theorem zi : ((Rows.reportTotalsRow.pinned == Rows.reportTotalsRow.pinnedBy)) = true := by kernel_rfl
theorem yS : ((Rows.reportTotalsRow.veiled == (Tryz.f4.params.toList ++ Rows.reportTotalsSpec.plain.varTypes Tryz.prog ++ Tryz.f4.resultTypes.toList).any (Tryz.prog.veiledRec ·))) = true := by kernel_rfl
theorem yy : (Rows.reportTotalsRow.veiledFits Tryz.prog Tryz.f4.params.toList (Tryz.f4.params.toList ++ Rows.reportTotalsSpec.plain.varTypes Tryz.prog ++ Tryz.f4.resultTypes.toList)) = true := by kernel_rfl
theorem aM {a b : Bool} (h1 : a = true) (h2 : b = true) : (a && b) = true := by rw [h1, h2]; rfl
set_option maxRecDepth 100000 in
theorem yM : joinedFacts Tryz.prog 4 Tryz.f4 Rows.reportTotalsSpec Rows.reportTotalsRow = true := by
  unfold joinedFacts
  exact (aM (aM (aM (aM (aM (aM (aM (aM (aM (aM (aM (aM (aM (aM (aM (aM (aM (aM (aM (aM (aM (aM (aM (aM (aM (aM (aM (aM (aM (aM (aM zA As) Br) AD) Ay) BA) zI) AT) Ai) Bm) xZ) xW) yB) yH) yT) yf) zb) yx) xX) yF) xY) yp) yG) yh) yP) x7) yz) yI) x5) zi) yS) yy)
theorem zy : Tryz.prog.funcNamed Rows.reportTotalsRow.func = some 4 := by kernel_rfl
theorem CD : decide (Tryz.f4.isInstance Tryz.prog Rows.reportTotalsRow.origin Rows.reportTotalsRow.targs) = true := by kernel_rfl
set_option maxHeartbeats 2000000 in
theorem Ch : Tryz.f4.isWrapper Tryz.prog Rows.reportTotalsRow.wrapper Rows.reportTotalsRow.mainSum := by
  unfold Func.isWrapper; first | (rw [if_pos (by decide +kernel)]; kernel_rfl) | (rw [if_neg (by decide +kernel)]; exact ⟨rfl, rfl⟩)
end Go.Proofs.YtnkobepdbkmedaaGreatDoor
