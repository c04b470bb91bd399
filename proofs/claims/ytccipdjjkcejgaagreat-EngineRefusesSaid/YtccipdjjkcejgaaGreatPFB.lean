/- The closed facts of EngineRefuses's row; no theorem of a claim. -/
import Derived.Test.YtccipdjjkcejgaaGreatChecked
import Derived.Test.YtccipdjjkcejgaaGreatRows
import Derived.JoinedOf
import Derived.Test.YtccipdjjkcejgaaGreatAB
set_option linter.unusedSimpArgs false
set_option linter.unusedVariables false
namespace Go.Proofs.YtccipdjjkcejgaaGreat
open Go.ChangeShapes Go.WideShapes Go.ChangeAt Go.RowKit Go.Abs
theorem Bj : (Rows.engineRefusesRow.wf (OpenSpec.ofChange Rows.engineRefusesSpec)) = true := by kernel_rfl
theorem Bk : (laidOutB Tryz.prog) = true := by kernel_rfl
theorem Bl : (mapsRowed Tryz.prog) = true := by kernel_rfl
theorem Bm : (Tryz.f5.params.all (Tryz.prog.readableRec ·)) = true := by kernel_rfl
theorem Bn : (namedTie Tryz.prog Rows.engineRefusesRow.named Rows.engineRefusesSpec.vars) = true := by kernel_rfl
theorem Bo : ((Rows.engineRefusesRow.stops == [])) = true := by kernel_rfl
theorem Bp : ((Tryz.prog.stops == [])) = true := by kernel_rfl
theorem Bq : ((Rows.engineRefusesRow.knobs == [])) = true := by kernel_rfl
theorem Br : ((Tryz.prog.stopKnobs == [])) = true := by kernel_rfl
theorem Bs : ((Rows.engineRefusesRow.inPlace == Tryz.prog.inPlace 5)) = true := by kernel_rfl
theorem zG : ((Rows.engineRefusesRow.unfollowed == Tryz.prog.unfollowed 5)) = true := by kernel_rfl
theorem zH : ((Rows.engineRefusesRow.recurses == Tryz.prog.recurses 5)) = true := by kernel_rfl
theorem zI : ((Rows.engineRefusesRow.named == Tryz.prog.varsNamed 5)) = true := by kernel_rfl
theorem zJ : ((Rows.engineRefusesRow.maps == (Tryz.f5.params.toList ++ Rows.engineRefusesSpec.plain.varTypes Tryz.prog).any (Tryz.prog.mapsRec ·))) = true := by kernel_rfl
theorem zK : ((Rows.engineRefusesRow.ifaces == (Tryz.f5.params.toList ++ Rows.engineRefusesSpec.plain.varTypes Tryz.prog).any (Tryz.prog.ifacesRec ·))) = true := by kernel_rfl
theorem zL : ((Rows.engineRefusesRow.mapsOut == Tryz.prog.mapsAmong Tryz.f5.resultTypes.toList)) = true := by kernel_rfl
theorem zM : ((Rows.engineRefusesRow.loops == (Tryz.f5.params.toList ++ Rows.engineRefusesSpec.plain.varTypes Tryz.prog).any (Tryz.prog.loopsFrom ·))) = true := by kernel_rfl
theorem zN : ((Rows.engineRefusesRow.wideKeys == (Tryz.f5.params.toList ++ Rows.engineRefusesSpec.plain.varTypes Tryz.prog ++ Tryz.f5.resultTypes.toList).any (Tryz.prog.wideKeysFrom ·))) = true := by kernel_rfl
theorem zO : (Rows.engineRefusesSpec.vars.all (Tryz.prog.varReadable ·)) = true := by kernel_rfl
theorem zP : (Tryz.f5.resultTypes.all (fun t => Tryz.prog.readableRec t && decide (t < Tryz.prog.types.size))) = true := by kernel_rfl
theorem zQ : ((Rows.engineRefusesRow.ifacesOut == Tryz.f5.resultTypes.toList.any (Tryz.prog.ifacesRec ·))) = true := by kernel_rfl
theorem zR : ((Rows.engineRefusesRow.loopsOut == Tryz.f5.resultTypes.toList.any (Tryz.prog.loopsFrom ·))) = true := by kernel_rfl
theorem zT : ((Rows.engineRefusesRow.plainKeys == Tryz.prog.plainKeys)) = true := by kernel_rfl
theorem zU : (Rows.engineRefusesRow.shortTexts.isNone) = true := by kernel_rfl
theorem zV : (Tryz.prog.stopsHeard) = true := by kernel_rfl
theorem zW : (Tryz.prog.mayEnter) = true := by kernel_rfl
theorem zX : ((Rows.engineRefusesRow.lifted == Tryz.prog.liftsFinal)) = true := by kernel_rfl
theorem zY : ((Tryz.prog.make == some Rows.engineRefusesRow.make)) = true := by kernel_rfl
theorem zZ : ((Rows.engineRefusesRow.kinds == (if Rows.engineRefusesRow.domain.isEmpty then [] else Tryz.f5.params.toList.map fun t => match Tryz.prog.underlying t with | some (.int k) => some k | _ => none))) = true := by kernel_rfl
theorem z0 : ((Rows.engineRefusesRow.pinned == Rows.engineRefusesRow.pinnedBy)) = true := by kernel_rfl
theorem z9 : ((Rows.engineRefusesRow.veiled == (Tryz.f5.params.toList ++ Rows.engineRefusesSpec.plain.varTypes Tryz.prog ++ Tryz.f5.resultTypes.toList).any (Tryz.prog.veiledRec ·))) = true := by kernel_rfl
theorem Aa : (Rows.engineRefusesRow.veiledFits Tryz.prog Tryz.f5.params.toList (Tryz.f5.params.toList ++ Rows.engineRefusesSpec.plain.varTypes Tryz.prog ++ Tryz.f5.resultTypes.toList)) = true := by kernel_rfl
theorem aS {a b : Bool} (c : a = true) (d : b = true) : (a && b) = true := by rw [c, d]; rfl
set_option maxRecDepth 100000 in
theorem Ab : joinedFacts Tryz.prog 5 Tryz.f5 Rows.engineRefusesSpec Rows.engineRefusesRow = true := by
  unfold joinedFacts
  exact (aS (aS (aS (aS (aS (aS (aS (aS (aS (aS (aS (aS (aS (aS (aS (aS (aS (aS (aS (aS (aS (aS (aS (aS (aS (aS (aS (aS (aS (aS (aS Bj Bk) Bl) Bm) Bn) Bo) Bp) Bq) Br) Bs) zG) zH) zI) zJ) zK) zL) zM) zN) zO) zP) zQ) zR) zT) zU) zV) zW) zX) zY) zZ) z0) z9) Aa)
theorem Bt : Tryz.prog.funcNamed Rows.engineRefusesRow.func = some 5 := by kernel_rfl
theorem CZ : decide (Tryz.f5.isInstance Tryz.prog Rows.engineRefusesRow.origin Rows.engineRefusesRow.targs) = true := by kernel_rfl
set_option maxHeartbeats 2000000 in
theorem C0 : Tryz.f5.isWrapper Tryz.prog Rows.engineRefusesRow.wrapper Rows.engineRefusesRow.mainSum := by
  unfold Func.isWrapper; first | (rw [if_pos (by decide +kernel)]; kernel_rfl) | (rw [if_neg (by decide +kernel)]; exact ⟨rfl, rfl⟩)
end Go.Proofs.YtccipdjjkcejgaaGreat
