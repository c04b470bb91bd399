/- The closed facts of EngineClients's row; no theorem of a claim. -/
import Derived.Test.YtccipdjjkcejgaaGreatChecked
import Derived.Test.YtccipdjjkcejgaaGreatRows
import Derived.JoinedOf
import Derived.Test.YtccipdjjkcejgaaGreatAB
set_option linter.unusedSimpArgs false
set_option linter.unusedVariables false
namespace Go.Proofs.YtccipdjjkcejgaaGreat
open Go.ChangeShapes Go.WideShapes Go.ChangeAt Go.RowKit Go.Abs
theorem A0 : (Rows.engineClientsRow.wf (OpenSpec.ofChange Rows.engineClientsSpec)) = true := by kernel_rfl
theorem A9 : (laidOutB Tryz.prog) = true := by kernel_rfl
theorem Ba : (mapsRowed Tryz.prog) = true := by kernel_rfl
theorem Bb : (Tryz.f10.params.all (Tryz.prog.readableRec ·)) = true := by kernel_rfl
theorem Bc : (namedTie Tryz.prog Rows.engineClientsRow.named Rows.engineClientsSpec.vars) = true := by kernel_rfl
theorem Bd : ((Rows.engineClientsRow.stops == [])) = true := by kernel_rfl
theorem Be : ((Tryz.prog.stops == [])) = true := by kernel_rfl
theorem Bf : ((Rows.engineClientsRow.knobs == [])) = true := by kernel_rfl
theorem Bg : ((Tryz.prog.stopKnobs == [])) = true := by kernel_rfl
theorem Bh : ((Rows.engineClientsRow.inPlace == Tryz.prog.inPlace 10)) = true := by kernel_rfl
theorem yZ : ((Rows.engineClientsRow.unfollowed == Tryz.prog.unfollowed 10)) = true := by kernel_rfl
theorem y8 : ((Rows.engineClientsRow.recurses == Tryz.prog.recurses 10)) = true := by kernel_rfl
theorem y9 : ((Rows.engineClientsRow.named == Tryz.prog.varsNamed 10)) = true := by kernel_rfl
theorem ze : ((Rows.engineClientsRow.maps == (Tryz.f10.params.toList ++ Rows.engineClientsSpec.plain.varTypes Tryz.prog).any (Tryz.prog.mapsRec ·))) = true := by kernel_rfl
theorem zf : ((Rows.engineClientsRow.ifaces == (Tryz.f10.params.toList ++ Rows.engineClientsSpec.plain.varTypes Tryz.prog).any (Tryz.prog.ifacesRec ·))) = true := by kernel_rfl
theorem zg : ((Rows.engineClientsRow.mapsOut == Tryz.prog.mapsAmong Tryz.f10.resultTypes.toList)) = true := by kernel_rfl
theorem zh : ((Rows.engineClientsRow.loops == (Tryz.f10.params.toList ++ Rows.engineClientsSpec.plain.varTypes Tryz.prog).any (Tryz.prog.loopsFrom ·))) = true := by kernel_rfl
theorem zj : ((Rows.engineClientsRow.wideKeys == (Tryz.f10.params.toList ++ Rows.engineClientsSpec.plain.varTypes Tryz.prog ++ Tryz.f10.resultTypes.toList).any (Tryz.prog.wideKeysFrom ·))) = true := by kernel_rfl
theorem zk : (Rows.engineClientsSpec.vars.all (Tryz.prog.varReadable ·)) = true := by kernel_rfl
theorem zl : (Tryz.f10.resultTypes.all (fun t => Tryz.prog.readableRec t && decide (t < Tryz.prog.types.size))) = true := by kernel_rfl
theorem zm : ((Rows.engineClientsRow.ifacesOut == Tryz.f10.resultTypes.toList.any (Tryz.prog.ifacesRec ·))) = true := by kernel_rfl
theorem zn : ((Rows.engineClientsRow.loopsOut == Tryz.f10.resultTypes.toList.any (Tryz.prog.loopsFrom ·))) = true := by kernel_rfl
theorem zo : ((Rows.engineClientsRow.plainKeys == Tryz.prog.plainKeys)) = true := by kernel_rfl
theorem zq : (Rows.engineClientsRow.shortTexts.isNone) = true := by kernel_rfl
theorem zu : (Tryz.prog.stopsHeard) = true := by kernel_rfl
theorem zw : (Tryz.prog.mayEnter) = true := by kernel_rfl
theorem zx : ((Rows.engineClientsRow.lifted == Tryz.prog.liftsFinal)) = true := by kernel_rfl
theorem zy : ((Tryz.prog.make == some Rows.engineClientsRow.make)) = true := by kernel_rfl
theorem zz : ((Rows.engineClientsRow.kinds == (if Rows.engineClientsRow.domain.isEmpty then [] else Tryz.f10.params.toList.map fun t => match Tryz.prog.underlying t with | some (.int k) => some k | _ => none))) = true := by kernel_rfl
theorem zA : ((Rows.engineClientsRow.pinned == Rows.engineClientsRow.pinnedBy)) = true := by kernel_rfl
theorem zC : ((Rows.engineClientsRow.veiled == (Tryz.f10.params.toList ++ Rows.engineClientsSpec.plain.varTypes Tryz.prog ++ Tryz.f10.resultTypes.toList).any (Tryz.prog.veiledRec ·))) = true := by kernel_rfl
theorem zD : (Rows.engineClientsRow.veiledFits Tryz.prog Tryz.f10.params.toList (Tryz.f10.params.toList ++ Rows.engineClientsSpec.plain.varTypes Tryz.prog ++ Tryz.f10.resultTypes.toList)) = true := by kernel_rfl
theorem aR {a b : Bool} (c : a = true) (d : b = true) : (a && b) = true := by rw [c, d]; rfl
set_option maxRecDepth 100000 in
theorem zE : joinedFacts Tryz.prog 10 Tryz.f10 Rows.engineClientsSpec Rows.engineClientsRow = true := by
  unfold joinedFacts
  exact (aR (aR (aR (aR (aR (aR (aR (aR (aR (aR (aR (aR (aR (aR (aR (aR (aR (aR (aR (aR (aR (aR (aR (aR (aR (aR (aR (aR (aR (aR (aR A0 A9) Ba) Bb) Bc) Bd) Be) Bf) Bg) Bh) yZ) y8) y9) ze) zf) zg) zh) zj) zk) zl) zm) zn) zo) zq) zu) zw) zx) zy) zz) zA) zC) zD)
theorem Bi : Tryz.prog.funcNamed Rows.engineClientsRow.func = some 10 := by kernel_rfl
theorem Cz : decide (Tryz.f10.isInstance Tryz.prog Rows.engineClientsRow.origin Rows.engineClientsRow.targs) = true := by kernel_rfl
set_option maxHeartbeats 2000000 in
theorem CA : Tryz.f10.isWrapper Tryz.prog Rows.engineClientsRow.wrapper Rows.engineClientsRow.mainSum := by
  unfold Func.isWrapper; first | (rw [if_pos (by decide +kernel)]; kernel_rfl) | (rw [if_neg (by decide +kernel)]; exact ⟨rfl, rfl⟩)
end Go.Proofs.YtccipdjjkcejgaaGreat
