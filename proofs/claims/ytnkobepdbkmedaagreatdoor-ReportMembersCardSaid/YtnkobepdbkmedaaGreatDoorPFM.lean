/- The closed facts of ReportMembers's row; no theorem of a claim. -/
import Derived.Test.YtnkobepdbkmedaaGreatDoorChecked
import Derived.Test.YtnkobepdbkmedaaGreatDoorRows
import Derived.JoinedOf
import Derived.Test.YtnkobepdbkmedaaGreatDoorAbcLaw
set_option linter.unusedSimpArgs false
set_option linter.unusedVariables false
namespace Go.Proofs.YtnkobepdbkmedaaGreatDoor
open Go.ChangeShapes Go.WideShapes Go.ChangeAt Go.RowKit Go.Abs
theorem yW : (Rows.reportMembersRow.wf (OpenSpec.ofChange Rows.reportMembersSpec)) = true := by kernel_rfl
theorem yD : (laidOutB Tryz.prog) = true := by kernel_rfl
theorem za : (mapsRowed Tryz.prog) = true := by kernel_rfl
theorem xV : (Tryz.f3.params.all (Tryz.prog.readableRec ·)) = true := by kernel_rfl
theorem yg : (namedTie Tryz.prog Rows.reportMembersRow.named Rows.reportMembersSpec.vars) = true := by kernel_rfl
theorem x6 : ((Rows.reportMembersRow.stops == [])) = true := by kernel_rfl
theorem y4 : ((Tryz.prog.stops == [])) = true := by kernel_rfl
theorem yd : ((Rows.reportMembersRow.knobs == [])) = true := by kernel_rfl
theorem yK : ((Tryz.prog.stopKnobs == [])) = true := by kernel_rfl
theorem x8 : ((Rows.reportMembersRow.inPlace == Tryz.prog.inPlace 3)) = true := by kernel_rfl
theorem wM : ((Rows.reportMembersRow.unfollowed == Tryz.prog.unfollowed 3)) = true := by kernel_rfl
theorem wm : ((Rows.reportMembersRow.recurses == Tryz.prog.recurses 3)) = true := by kernel_rfl
theorem wW : ((Rows.reportMembersRow.named == Tryz.prog.varsNamed 3)) = true := by kernel_rfl
theorem v7 : ((Rows.reportMembersRow.maps == (Tryz.f3.params.toList ++ Rows.reportMembersSpec.plain.varTypes Tryz.prog).any (Tryz.prog.mapsRec ·))) = true := by kernel_rfl
theorem we : ((Rows.reportMembersRow.ifaces == (Tryz.f3.params.toList ++ Rows.reportMembersSpec.plain.varTypes Tryz.prog).any (Tryz.prog.ifacesRec ·))) = true := by kernel_rfl
theorem wD : ((Rows.reportMembersRow.mapsOut == Tryz.prog.mapsAmong Tryz.f3.resultTypes.toList)) = true := by kernel_rfl
theorem wK : ((Rows.reportMembersRow.loops == (Tryz.f3.params.toList ++ Rows.reportMembersSpec.plain.varTypes Tryz.prog).any (Tryz.prog.loopsFrom ·))) = true := by kernel_rfl
theorem w5 : ((Rows.reportMembersRow.wideKeys == (Tryz.f3.params.toList ++ Rows.reportMembersSpec.plain.varTypes Tryz.prog ++ Tryz.f3.resultTypes.toList).any (Tryz.prog.wideKeysFrom ·))) = true := by kernel_rfl
theorem wS : (Rows.reportMembersSpec.vars.all (Tryz.prog.varReadable ·)) = true := by kernel_rfl
theorem wk : (Tryz.f3.resultTypes.all (fun t => Tryz.prog.readableRec t && decide (t < Tryz.prog.types.size))) = true := by kernel_rfl
theorem v8 : ((Rows.reportMembersRow.ifacesOut == Tryz.f3.resultTypes.toList.any (Tryz.prog.ifacesRec ·))) = true := by kernel_rfl
theorem wB : ((Rows.reportMembersRow.loopsOut == Tryz.f3.resultTypes.toList.any (Tryz.prog.loopsFrom ·))) = true := by kernel_rfl
theorem wh : ((Rows.reportMembersRow.plainKeys == Tryz.prog.plainKeys)) = true := by kernel_rfl
theorem wJ : (Rows.reportMembersRow.shortTexts.isNone) = true := by kernel_rfl
theorem wN : (Tryz.prog.stopsHeard) = true := by kernel_rfl
theorem wH : (Tryz.prog.mayEnter) = true := by kernel_rfl
theorem wT : ((Rows.reportMembersRow.lifted == Tryz.prog.liftsFinal)) = true := by kernel_rfl
theorem wv : ((Tryz.prog.make == some Rows.reportMembersRow.make)) = true := by kernel_rfl
theorem xg : ((Rows.reportMembersRow.kinds == (if Rows.reportMembersRow.domain.isEmpty then [] else Tryz.f3.params.toList.map fun t => match Tryz.prog.underlying t with | some (.int k) => some k | _ => none))) = true := by kernel_rfl
theorem wE : ((Rows.reportMembersRow.pinned == Rows.reportMembersRow.pinnedBy)) = true := by kernel_rfl
theorem wR : ((Rows.reportMembersRow.veiled == (Tryz.f3.params.toList ++ Rows.reportMembersSpec.plain.varTypes Tryz.prog ++ Tryz.f3.resultTypes.toList).any (Tryz.prog.veiledRec ·))) = true := by kernel_rfl
theorem w7 : (Rows.reportMembersRow.veiledFits Tryz.prog Tryz.f3.params.toList (Tryz.f3.params.toList ++ Rows.reportMembersSpec.plain.varTypes Tryz.prog ++ Tryz.f3.resultTypes.toList)) = true := by kernel_rfl
theorem aK {a b : Bool} (h1 : a = true) (h2 : b = true) : (a && b) = true := by rw [h1, h2]; rfl
set_option maxRecDepth 100000 in
theorem wU : joinedFacts Tryz.prog 3 Tryz.f3 Rows.reportMembersSpec Rows.reportMembersRow = true := by
  unfold joinedFacts
  exact (aK (aK (aK (aK (aK (aK (aK (aK (aK (aK (aK (aK (aK (aK (aK (aK (aK (aK (aK (aK (aK (aK (aK (aK (aK (aK (aK (aK (aK (aK (aK yW yD) za) xV) yg) x6) y4) yd) yK) x8) wM) wm) wW) v7) we) wD) wK) w5) wS) wk) v8) wB) wh) wJ) wN) wH) wT) wv) xg) wE) wR) w7)
theorem yN : Tryz.prog.funcNamed Rows.reportMembersRow.func = some 3 := by kernel_rfl
theorem By : decide (Tryz.f3.isInstance Tryz.prog Rows.reportMembersRow.origin Rows.reportMembersRow.targs) = true := by kernel_rfl
set_option maxHeartbeats 2000000 in
theorem AJ : Tryz.f3.isWrapper Tryz.prog Rows.reportMembersRow.wrapper Rows.reportMembersRow.mainSum := by
  unfold Func.isWrapper; first | (rw [if_pos (by decide +kernel)]; kernel_rfl) | (rw [if_neg (by decide +kernel)]; exact ⟨rfl, rfl⟩)
end Go.Proofs.YtnkobepdbkmedaaGreatDoor
