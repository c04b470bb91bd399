/- The closed facts of ReportAccounts's row; no theorem of a claim. -/
import Derived.Test.YtnkobepdbkmedaaGreatDoorChecked
import Derived.Test.YtnkobepdbkmedaaGreatDoorRows
import Derived.JoinedOf
import Derived.Test.YtnkobepdbkmedaaGreatDoorAbcLaw
set_option linter.unusedSimpArgs false
set_option linter.unusedVariables false
namespace Go.Proofs.YtnkobepdbkmedaaGreatDoor
open Go.ChangeShapes Go.WideShapes Go.ChangeAt Go.RowKit Go.Abs
theorem wA : (Rows.reportAccountsRow.wf (OpenSpec.ofChange Rows.reportAccountsSpec)) = true := by kernel_rfl
theorem wG : (laidOutB Tryz.prog) = true := by kernel_rfl
theorem wX : (mapsRowed Tryz.prog) = true := by kernel_rfl
theorem wu : (Tryz.f5.params.all (Tryz.prog.readableRec ·)) = true := by kernel_rfl
theorem xh : (namedTie Tryz.prog Rows.reportAccountsRow.named Rows.reportAccountsSpec.vars) = true := by kernel_rfl
theorem wg : ((Rows.reportAccountsRow.stops == [])) = true := by kernel_rfl
theorem wZ : ((Tryz.prog.stops == [])) = true := by kernel_rfl
theorem wq : ((Rows.reportAccountsRow.knobs == [])) = true := by kernel_rfl
theorem xe : ((Tryz.prog.stopKnobs == [])) = true := by kernel_rfl
theorem wj : ((Rows.reportAccountsRow.inPlace == Tryz.prog.inPlace 5)) = true := by kernel_rfl
theorem uw : ((Rows.reportAccountsRow.unfollowed == Tryz.prog.unfollowed 5)) = true := by kernel_rfl
theorem um : ((Rows.reportAccountsRow.recurses == Tryz.prog.recurses 5)) = true := by kernel_rfl
theorem uX : ((Rows.reportAccountsRow.named == Tryz.prog.varsNamed 5)) = true := by kernel_rfl
theorem uc : ((Rows.reportAccountsRow.maps == (Tryz.f5.params.toList ++ Rows.reportAccountsSpec.plain.varTypes Tryz.prog).any (Tryz.prog.mapsRec ·))) = true := by kernel_rfl
theorem uQ : ((Rows.reportAccountsRow.ifaces == (Tryz.f5.params.toList ++ Rows.reportAccountsSpec.plain.varTypes Tryz.prog).any (Tryz.prog.ifacesRec ·))) = true := by kernel_rfl
theorem uL : ((Rows.reportAccountsRow.mapsOut == Tryz.prog.mapsAmong Tryz.f5.resultTypes.toList)) = true := by kernel_rfl
theorem ud : ((Rows.reportAccountsRow.loops == (Tryz.f5.params.toList ++ Rows.reportAccountsSpec.plain.varTypes Tryz.prog).any (Tryz.prog.loopsFrom ·))) = true := by kernel_rfl
theorem u6 : ((Rows.reportAccountsRow.wideKeys == (Tryz.f5.params.toList ++ Rows.reportAccountsSpec.plain.varTypes Tryz.prog ++ Tryz.f5.resultTypes.toList).any (Tryz.prog.wideKeysFrom ·))) = true := by kernel_rfl
theorem uu : (Rows.reportAccountsSpec.vars.all (Tryz.prog.varReadable ·)) = true := by kernel_rfl
theorem uh : (Tryz.f5.resultTypes.all (fun t => Tryz.prog.readableRec t && decide (t < Tryz.prog.types.size))) = true := by kernel_rfl
theorem uf : ((Rows.reportAccountsRow.ifacesOut == Tryz.f5.resultTypes.toList.any (Tryz.prog.ifacesRec ·))) = true := by kernel_rfl
theorem uG : ((Rows.reportAccountsRow.loopsOut == Tryz.f5.resultTypes.toList.any (Tryz.prog.loopsFrom ·))) = true := by kernel_rfl
theorem tZ : ((Rows.reportAccountsRow.plainKeys == Tryz.prog.plainKeys)) = true := by kernel_rfl
theorem uM : (Rows.reportAccountsRow.shortTexts.isNone) = true := by kernel_rfl
theorem vn : (Tryz.prog.stopsHeard) = true := by kernel_rfl
theorem tR : (Tryz.prog.mayEnter) = true := by kernel_rfl
theorem uE : ((Rows.reportAccountsRow.lifted == Tryz.prog.liftsFinal)) = true := by kernel_rfl
theorem uk : ((Tryz.prog.make == some Rows.reportAccountsRow.make)) = true := by kernel_rfl
theorem tU : ((Rows.reportAccountsRow.kinds == (if Rows.reportAccountsRow.domain.isEmpty then [] else Tryz.f5.params.toList.map fun t => match Tryz.prog.underlying t with | some (.int k) => some k | _ => none))) = true := by kernel_rfl
theorem vo : ((Rows.reportAccountsRow.pinned == Rows.reportAccountsRow.pinnedBy)) = true := by kernel_rfl
theorem tW : ((Rows.reportAccountsRow.veiled == (Tryz.f5.params.toList ++ Rows.reportAccountsSpec.plain.varTypes Tryz.prog ++ Tryz.f5.resultTypes.toList).any (Tryz.prog.veiledRec ·))) = true := by kernel_rfl
theorem uq : (Rows.reportAccountsRow.veiledFits Tryz.prog Tryz.f5.params.toList (Tryz.f5.params.toList ++ Rows.reportAccountsSpec.plain.varTypes Tryz.prog ++ Tryz.f5.resultTypes.toList)) = true := by kernel_rfl
theorem aI {a b : Bool} (h1 : a = true) (h2 : b = true) : (a && b) = true := by rw [h1, h2]; rfl
set_option maxRecDepth 100000 in
theorem uP : joinedFacts Tryz.prog 5 Tryz.f5 Rows.reportAccountsSpec Rows.reportAccountsRow = true := by
  unfold joinedFacts
  exact (aI (aI (aI (aI (aI (aI (aI (aI (aI (aI (aI (aI (aI (aI (aI (aI (aI (aI (aI (aI (aI (aI (aI (aI (aI (aI (aI (aI (aI (aI (aI wA wG) wX) wu) xh) wg) wZ) wq) xe) wj) uw) um) uX) uc) uQ) uL) ud) u6) uu) uh) uf) uG) tZ) uM) vn) tR) uE) uk) tU) vo) tW) uq)
theorem wV : Tryz.prog.funcNamed Rows.reportAccountsRow.func = some 5 := by kernel_rfl
theorem yR : decide (Tryz.f5.isInstance Tryz.prog Rows.reportAccountsRow.origin Rows.reportAccountsRow.targs) = true := by kernel_rfl
set_option maxHeartbeats 2000000 in
theorem zn : Tryz.f5.isWrapper Tryz.prog Rows.reportAccountsRow.wrapper Rows.reportAccountsRow.mainSum := by
  unfold Func.isWrapper; first | (rw [if_pos (by decide +kernel)]; kernel_rfl) | (rw [if_neg (by decide +kernel)]; exact ⟨rfl, rfl⟩)
end Go.Proofs.YtnkobepdbkmedaaGreatDoor
