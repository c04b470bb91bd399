/- The closed facts of DayTicks's row; no theorem of a claim. -/
import Derived.Test.YtacacccbcndjoaaGreatChecked
import Derived.Test.YtacacccbcndjoaaGreatRows
import Derived.JoinedOf
import Derived.Test.YtacacccbcndjoaaGreatAbcLaw
set_option linter.unusedSimpArgs false
set_option linter.unusedVariables false
namespace Go.Proofs.YtacacccbcndjoaaGreat
open Go.ChangeShapes Go.WideShapes Go.ChangeAt Go.RowKit Go.Abs
theorem Ee : (Rows.dayTicksRow.wf (OpenSpec.ofChange Rows.dayTicksSpec)) = true := by kernel_rfl
theorem D9 : (laidOutB Tryz.prog) = true := by kernel_rfl
theorem DS : (mapsRowed Tryz.prog) = true := by kernel_rfl
theorem DN : (Tryz.f3.params.all (Tryz.prog.readableRec ·)) = true := by kernel_rfl
theorem EM : (namedTie Tryz.prog Rows.dayTicksRow.named Rows.dayTicksSpec.vars) = true := by kernel_rfl
theorem Ez : ((Rows.dayTicksRow.stops == [])) = true := by kernel_rfl
theorem DK : ((Tryz.prog.stops == [])) = true := by kernel_rfl
theorem DI : ((Rows.dayTicksRow.knobs == [])) = true := by kernel_rfl
theorem DM : ((Tryz.prog.stopKnobs == [])) = true := by kernel_rfl
theorem Eg : ((Rows.dayTicksRow.inPlace == Tryz.prog.inPlace 3)) = true := by kernel_rfl
theorem Bp : ((Rows.dayTicksRow.unfollowed == Tryz.prog.unfollowed 3)) = true := by kernel_rfl
theorem Dt : ((Rows.dayTicksRow.recurses == Tryz.prog.recurses 3)) = true := by kernel_rfl
theorem Cv : ((Rows.dayTicksRow.named == Tryz.prog.varsNamed 3)) = true := by kernel_rfl
theorem CQ : ((Rows.dayTicksRow.maps == (Tryz.f3.params.toList ++ Rows.dayTicksSpec.plain.varTypes Tryz.prog).any (Tryz.prog.mapsRec ·))) = true := by kernel_rfl
theorem Dk : ((Rows.dayTicksRow.ifaces == (Tryz.f3.params.toList ++ Rows.dayTicksSpec.plain.varTypes Tryz.prog).any (Tryz.prog.ifacesRec ·))) = true := by kernel_rfl
theorem CE : ((Rows.dayTicksRow.mapsOut == Tryz.prog.mapsAmong Tryz.f3.resultTypes.toList)) = true := by kernel_rfl
theorem Az : ((Rows.dayTicksRow.loops == (Tryz.f3.params.toList ++ Rows.dayTicksSpec.plain.varTypes Tryz.prog).any (Tryz.prog.loopsFrom ·))) = true := by kernel_rfl
theorem Bb : ((Rows.dayTicksRow.wideKeys == (Tryz.f3.params.toList ++ Rows.dayTicksSpec.plain.varTypes Tryz.prog ++ Tryz.f3.resultTypes.toList).any (Tryz.prog.wideKeysFrom ·))) = true := by kernel_rfl
theorem AQ : (Rows.dayTicksSpec.vars.all (Tryz.prog.varReadable ·)) = true := by kernel_rfl
theorem Dn : (Tryz.f3.resultTypes.all (fun t => Tryz.prog.readableRec t && decide (t < Tryz.prog.types.size))) = true := by kernel_rfl
theorem Bz : ((Rows.dayTicksRow.ifacesOut == Tryz.f3.resultTypes.toList.any (Tryz.prog.ifacesRec ·))) = true := by kernel_rfl
theorem BC : ((Rows.dayTicksRow.loopsOut == Tryz.f3.resultTypes.toList.any (Tryz.prog.loopsFrom ·))) = true := by kernel_rfl
theorem Dl : ((Rows.dayTicksRow.plainKeys == Tryz.prog.plainKeys)) = true := by kernel_rfl
theorem BL : (Rows.dayTicksRow.shortTexts.isNone) = true := by kernel_rfl
theorem BZ : (Tryz.prog.stopsHeard) = true := by kernel_rfl
theorem De : (Tryz.prog.mayEnter) = true := by kernel_rfl
theorem AF : ((Rows.dayTicksRow.lifted == Tryz.prog.liftsFinal)) = true := by kernel_rfl
theorem BU : ((Tryz.prog.make == some Rows.dayTicksRow.make)) = true := by kernel_rfl
theorem AX : ((Rows.dayTicksRow.kinds == (if Rows.dayTicksRow.domain.isEmpty then [] else Tryz.f3.params.toList.map fun t => match Tryz.prog.underlying t with | some (.int k) => some k | _ => none))) = true := by kernel_rfl
theorem Di : ((Rows.dayTicksRow.pinned == Rows.dayTicksRow.pinnedBy)) = true := by kernel_rfl
theorem Ci : ((Rows.dayTicksRow.veiled == (Tryz.f3.params.toList ++ Rows.dayTicksSpec.plain.varTypes Tryz.prog ++ Tryz.f3.resultTypes.toList).any (Tryz.prog.veiledRec ·))) = true := by kernel_rfl
theorem AN : (Rows.dayTicksRow.veiledFits Tryz.prog Tryz.f3.params.toList (Tryz.f3.params.toList ++ Rows.dayTicksSpec.plain.varTypes Tryz.prog ++ Tryz.f3.resultTypes.toList)) = true := by kernel_rfl
theorem aZ {a b : Bool} (h1 : a = true) (h2 : b = true) : (a && b) = true := by rw [h1, h2]; rfl
set_option maxRecDepth 100000 in
theorem BD : joinedFacts Tryz.prog 3 Tryz.f3 Rows.dayTicksSpec Rows.dayTicksRow = true := by
  unfold joinedFacts
  exact (aZ (aZ (aZ (aZ (aZ (aZ (aZ (aZ (aZ (aZ (aZ (aZ (aZ (aZ (aZ (aZ (aZ (aZ (aZ (aZ (aZ (aZ (aZ (aZ (aZ (aZ (aZ (aZ (aZ (aZ (aZ Ee D9) DS) DN) EM) Ez) DK) DI) DM) Eg) Bp) Dt) Cv) CQ) Dk) CE) Az) Bb) AQ) Dn) Bz) BC) Dl) BL) BZ) De) AF) BU) AX) Di) Ci) AN)
theorem EC : Tryz.prog.funcNamed Rows.dayTicksRow.func = some 3 := by kernel_rfl
theorem Hy : decide (Tryz.f3.isInstance Tryz.prog Rows.dayTicksRow.origin Rows.dayTicksRow.targs) = true := by kernel_rfl
set_option maxHeartbeats 2000000 in
theorem Hs : Tryz.f3.isWrapper Tryz.prog Rows.dayTicksRow.wrapper Rows.dayTicksRow.mainSum := by
  unfold Func.isWrapper; first | (rw [if_pos (by decide +kernel)]; kernel_rfl) | (rw [if_neg (by decide +kernel)]; exact ⟨rfl, rfl⟩)
end Go.Proofs.YtacacccbcndjoaaGreat
