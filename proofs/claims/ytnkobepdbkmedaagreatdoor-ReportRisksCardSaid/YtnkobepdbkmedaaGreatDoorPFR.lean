/- The closed facts of ReportRisks's row; no theorem of a claim. -/
import Derived.Test.YtnkobepdbkmedaaGreatDoorChecked
import Derived.Test.YtnkobepdbkmedaaGreatDoorRows
import Derived.JoinedOf
import Derived.Test.YtnkobepdbkmedaaGreatDoorAbcLaw
set_option linter.unusedSimpArgs false
set_option linter.unusedVariables false
namespace Go.Proofs.YtnkobepdbkmedaaGreatDoor
open Go.ChangeShapes Go.WideShapes Go.ChangeAt Go.RowKit Go.Abs
theorem Cb : (Rows.reportRisksRow.wf (OpenSpec.ofChange Rows.reportRisksSpec)) = true := by kernel_rfl
theorem Cc : (laidOutB Tryz.prog) = true := by kernel_rfl
theorem CG : (mapsRowed Tryz.prog) = true := by kernel_rfl
theorem CF : (Tryz.f6.params.all (Tryz.prog.readableRec ·)) = true := by kernel_rfl
theorem Cs : (namedTie Tryz.prog Rows.reportRisksRow.named Rows.reportRisksSpec.vars) = true := by kernel_rfl
theorem BS : ((Rows.reportRisksRow.stops == [])) = true := by kernel_rfl
theorem Cl : ((Tryz.prog.stops == [])) = true := by kernel_rfl
theorem BJ : ((Rows.reportRisksRow.knobs == [])) = true := by kernel_rfl
theorem Ce : ((Tryz.prog.stopKnobs == [])) = true := by kernel_rfl
theorem Co : ((Rows.reportRisksRow.inPlace == Tryz.prog.inPlace 6)) = true := by kernel_rfl
theorem AV : ((Rows.reportRisksRow.unfollowed == Tryz.prog.unfollowed 6)) = true := by kernel_rfl
theorem Aw : ((Rows.reportRisksRow.recurses == Tryz.prog.recurses 6)) = true := by kernel_rfl
theorem Bw : ((Rows.reportRisksRow.named == Tryz.prog.varsNamed 6)) = true := by kernel_rfl
theorem Bq : ((Rows.reportRisksRow.maps == (Tryz.f6.params.toList ++ Rows.reportRisksSpec.plain.varTypes Tryz.prog).any (Tryz.prog.mapsRec ·))) = true := by kernel_rfl
theorem zL : ((Rows.reportRisksRow.ifaces == (Tryz.f6.params.toList ++ Rows.reportRisksSpec.plain.varTypes Tryz.prog).any (Tryz.prog.ifacesRec ·))) = true := by kernel_rfl
theorem zP : ((Rows.reportRisksRow.mapsOut == Tryz.prog.mapsAmong Tryz.f6.resultTypes.toList)) = true := by kernel_rfl
theorem Be : ((Rows.reportRisksRow.loops == (Tryz.f6.params.toList ++ Rows.reportRisksSpec.plain.varTypes Tryz.prog).any (Tryz.prog.loopsFrom ·))) = true := by kernel_rfl
theorem zZ : ((Rows.reportRisksRow.wideKeys == (Tryz.f6.params.toList ++ Rows.reportRisksSpec.plain.varTypes Tryz.prog ++ Tryz.f6.resultTypes.toList).any (Tryz.prog.wideKeysFrom ·))) = true := by kernel_rfl
theorem zY : (Rows.reportRisksSpec.vars.all (Tryz.prog.varReadable ·)) = true := by kernel_rfl
theorem Az : (Tryz.f6.resultTypes.all (fun t => Tryz.prog.readableRec t && decide (t < Tryz.prog.types.size))) = true := by kernel_rfl
theorem AM : ((Rows.reportRisksRow.ifacesOut == Tryz.f6.resultTypes.toList.any (Tryz.prog.ifacesRec ·))) = true := by kernel_rfl
theorem AU : ((Rows.reportRisksRow.loopsOut == Tryz.f6.resultTypes.toList.any (Tryz.prog.loopsFrom ·))) = true := by kernel_rfl
theorem Ae : ((Rows.reportRisksRow.plainKeys == Tryz.prog.plainKeys)) = true := by kernel_rfl
theorem Bs : (Rows.reportRisksRow.shortTexts.isNone) = true := by kernel_rfl
theorem Ak : (Tryz.prog.stopsHeard) = true := by kernel_rfl
theorem Bx : (Tryz.prog.mayEnter) = true := by kernel_rfl
theorem zR : ((Rows.reportRisksRow.lifted == Tryz.prog.liftsFinal)) = true := by kernel_rfl
theorem AY : ((Tryz.prog.make == some Rows.reportRisksRow.make)) = true := by kernel_rfl
theorem Bj : ((Rows.reportRisksRow.kinds == (if Rows.reportRisksRow.domain.isEmpty then [] else Tryz.f6.params.toList.map fun t => match Tryz.prog.underlying t with | some (.int k) => some k | _ => none))) = true := by kernel_rfl
theorem Ba : ((Rows.reportRisksRow.pinned == Rows.reportRisksRow.pinnedBy)) = true := by kernel_rfl
theorem zU : ((Rows.reportRisksRow.veiled == (Tryz.f6.params.toList ++ Rows.reportRisksSpec.plain.varTypes Tryz.prog ++ Tryz.f6.resultTypes.toList).any (Tryz.prog.veiledRec ·))) = true := by kernel_rfl
theorem AA : (Rows.reportRisksRow.veiledFits Tryz.prog Tryz.f6.params.toList (Tryz.f6.params.toList ++ Rows.reportRisksSpec.plain.varTypes Tryz.prog ++ Tryz.f6.resultTypes.toList)) = true := by kernel_rfl
theorem aP {a b : Bool} (h1 : a = true) (h2 : b = true) : (a && b) = true := by rw [h1, h2]; rfl
set_option maxRecDepth 100000 in
theorem AF : joinedFacts Tryz.prog 6 Tryz.f6 Rows.reportRisksSpec Rows.reportRisksRow = true := by
  unfold joinedFacts
  exact (aP (aP (aP (aP (aP (aP (aP (aP (aP (aP (aP (aP (aP (aP (aP (aP (aP (aP (aP (aP (aP (aP (aP (aP (aP (aP (aP (aP (aP (aP (aP Cb Cc) CG) CF) Cs) BS) Cl) BJ) Ce) Co) AV) Aw) Bw) Bq) zL) zP) Be) zZ) zY) Az) AM) AU) Ae) Bs) Ak) Bx) zR) AY) Bj) Ba) zU) AA)
theorem Cz : Tryz.prog.funcNamed Rows.reportRisksRow.func = some 6 := by kernel_rfl
theorem DL : decide (Tryz.f6.isInstance Tryz.prog Rows.reportRisksRow.origin Rows.reportRisksRow.targs) = true := by kernel_rfl
set_option maxHeartbeats 2000000 in
theorem DB : Tryz.f6.isWrapper Tryz.prog Rows.reportRisksRow.wrapper Rows.reportRisksRow.mainSum := by
  unfold Func.isWrapper; first | (rw [if_pos (by decide +kernel)]; kernel_rfl) | (rw [if_neg (by decide +kernel)]; exact ⟨rfl, rfl⟩)
end Go.Proofs.YtnkobepdbkmedaaGreatDoor
