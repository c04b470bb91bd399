/- The closed facts of AuditSees's row; no theorem of a claim. -/
import Derived.Test.YtnkobepdbkmedaaGreatChecked
import Derived.Test.YtnkobepdbkmedaaGreatRows
import Derived.JoinedOf
import Derived.Test.YtnkobepdbkmedaaGreatAbcLaw
set_option linter.unusedSimpArgs false
set_option linter.unusedVariables false
namespace Go.Proofs.YtnkobepdbkmedaaGreat
open Go.ChangeShapes Go.WideShapes Go.ChangeAt Go.RowKit Go.Abs
theorem B9 : (Rows.auditSeesRow.wf (OpenSpec.ofChange Rows.auditSeesSpec)) = true := by kernel_rfl
theorem Bo : (laidOutB Tryz.prog) = true := by kernel_rfl
theorem Co : (mapsRowed Tryz.prog) = true := by kernel_rfl
theorem CK : (Tryz.f3.params.all (Tryz.prog.readableRec ·)) = true := by kernel_rfl
theorem Bl : (namedTie Tryz.prog Rows.auditSeesRow.named Rows.auditSeesSpec.vars) = true := by kernel_rfl
theorem Br : ((Rows.auditSeesRow.stops == [])) = true := by kernel_rfl
theorem CY : ((Tryz.prog.stops == [])) = true := by kernel_rfl
theorem BO : ((Rows.auditSeesRow.knobs == [])) = true := by kernel_rfl
theorem BB : ((Tryz.prog.stopKnobs == [])) = true := by kernel_rfl
theorem Dj : ((Rows.auditSeesRow.inPlace == Tryz.prog.inPlace 3)) = true := by kernel_rfl
theorem Ap : ((Rows.auditSeesRow.unfollowed == Tryz.prog.unfollowed 3)) = true := by kernel_rfl
theorem zX : ((Rows.auditSeesRow.recurses == Tryz.prog.recurses 3)) = true := by kernel_rfl
theorem At : ((Rows.auditSeesRow.named == Tryz.prog.varsNamed 3)) = true := by kernel_rfl
theorem zJ : ((Rows.auditSeesRow.maps == (Tryz.f3.params.toList ++ Rows.auditSeesSpec.plain.varTypes Tryz.prog).any (Tryz.prog.mapsRec ·))) = true := by kernel_rfl
theorem zw : ((Rows.auditSeesRow.ifaces == (Tryz.f3.params.toList ++ Rows.auditSeesSpec.plain.varTypes Tryz.prog).any (Tryz.prog.ifacesRec ·))) = true := by kernel_rfl
theorem Ag : ((Rows.auditSeesRow.mapsOut == Tryz.prog.mapsAmong Tryz.f3.resultTypes.toList)) = true := by kernel_rfl
theorem As : ((Rows.auditSeesRow.loops == (Tryz.f3.params.toList ++ Rows.auditSeesSpec.plain.varTypes Tryz.prog).any (Tryz.prog.loopsFrom ·))) = true := by kernel_rfl
theorem Ao : ((Rows.auditSeesRow.wideKeys == (Tryz.f3.params.toList ++ Rows.auditSeesSpec.plain.varTypes Tryz.prog ++ Tryz.f3.resultTypes.toList).any (Tryz.prog.wideKeysFrom ·))) = true := by kernel_rfl
theorem Az : (Rows.auditSeesSpec.vars.all (Tryz.prog.varReadable ·)) = true := by kernel_rfl
theorem zK : (Tryz.f3.resultTypes.all (fun t => Tryz.prog.readableRec t && decide (t < Tryz.prog.types.size))) = true := by kernel_rfl
theorem zI : ((Rows.auditSeesRow.ifacesOut == Tryz.f3.resultTypes.toList.any (Tryz.prog.ifacesRec ·))) = true := by kernel_rfl
theorem Av : ((Rows.auditSeesRow.loopsOut == Tryz.f3.resultTypes.toList.any (Tryz.prog.loopsFrom ·))) = true := by kernel_rfl
theorem zZ : ((Rows.auditSeesRow.plainKeys == Tryz.prog.plainKeys)) = true := by kernel_rfl
theorem zy : (Rows.auditSeesRow.shortTexts.isNone) = true := by kernel_rfl
theorem zL : (Tryz.prog.stopsHeard) = true := by kernel_rfl
theorem zx : (Tryz.prog.mayEnter) = true := by kernel_rfl
theorem Ah : ((Rows.auditSeesRow.lifted == Tryz.prog.liftsFinal)) = true := by kernel_rfl
theorem Ab : ((Tryz.prog.make == some Rows.auditSeesRow.make)) = true := by kernel_rfl
theorem Ay : ((Rows.auditSeesRow.kinds == (if Rows.auditSeesRow.domain.isEmpty then [] else Tryz.f3.params.toList.map fun t => match Tryz.prog.underlying t with | some (.int k) => some k | _ => none))) = true := by kernel_rfl
theorem AB : ((Rows.auditSeesRow.pinned == Rows.auditSeesRow.pinnedBy)) = true := by kernel_rfl
theorem Ax : ((Rows.auditSeesRow.veiled == (Tryz.f3.params.toList ++ Rows.auditSeesSpec.plain.varTypes Tryz.prog ++ Tryz.f3.resultTypes.toList).any (Tryz.prog.veiledRec ·))) = true := by kernel_rfl
theorem zT : (Rows.auditSeesRow.veiledFits Tryz.prog Tryz.f3.params.toList (Tryz.f3.params.toList ++ Rows.auditSeesSpec.plain.varTypes Tryz.prog ++ Tryz.f3.resultTypes.toList)) = true := by kernel_rfl
theorem aS {a b : Bool} (h1 : a = true) (h2 : b = true) : (a && b) = true := by rw [h1, h2]; rfl
set_option maxRecDepth 100000 in
theorem Aa : joinedFacts Tryz.prog 3 Tryz.f3 Rows.auditSeesSpec Rows.auditSeesRow = true := by
  unfold joinedFacts
  exact (aS (aS (aS (aS (aS (aS (aS (aS (aS (aS (aS (aS (aS (aS (aS (aS (aS (aS (aS (aS (aS (aS (aS (aS (aS (aS (aS (aS (aS (aS (aS B9 Bo) Co) CK) Bl) Br) CY) BO) BB) Dj) Ap) zX) At) zJ) zw) Ag) As) Ao) Az) zK) zI) Av) zZ) zy) zL) zx) Ah) Ab) Ay) AB) Ax) zT)
theorem A9 : Tryz.prog.funcNamed Rows.auditSeesRow.func = some 3 := by kernel_rfl
theorem D4 : decide (Tryz.f3.isInstance Tryz.prog Rows.auditSeesRow.origin Rows.auditSeesRow.targs) = true := by kernel_rfl
set_option maxHeartbeats 2000000 in
theorem Ei : Tryz.f3.isWrapper Tryz.prog Rows.auditSeesRow.wrapper Rows.auditSeesRow.mainSum := by
  unfold Func.isWrapper; first | (rw [if_pos (by decide +kernel)]; kernel_rfl) | (rw [if_neg (by decide +kernel)]; exact ⟨rfl, rfl⟩)
end Go.Proofs.YtnkobepdbkmedaaGreat
