/- The closed facts of DayPhases's row; no theorem of a claim. -/
import Derived.Test.YtfhdodehnpbeoaaGreatChecked
import Derived.Test.YtfhdodehnpbeoaaGreatRows
import Derived.JoinedOf
set_option linter.unusedSimpArgs false
set_option linter.unusedVariables false
namespace Go.Proofs.YtfhdodehnpbeoaaGreat
theorem fA{a b:Bool}(c:a=true)(d:b=true):(a&&b)=true:=by rw[c, d]; rfl
set_option maxRecDepth 100000 in
set_option maxHeartbeats 40000000 in
theorem fJ:joinedFacts Tryz.prog 5 Tryz.f5 Rows.dayPhasesSpec Rows.dayPhasesRow=true:=by
  unfold joinedFacts;repeat' with_reducible apply fA
  all_goals as_aux_lemma=>kernel_rfl
theorem fN:Tryz.prog.funcNamed Rows.dayPhasesRow.func=some 5:=by kernel_rfl
theorem fI:decide (Tryz.f5.isInstance Tryz.prog Rows.dayPhasesRow.origin Rows.dayPhasesRow.targs)=true:=by kernel_rfl
set_option maxHeartbeats 2000000 in
theorem fW:Tryz.f5.isWrapper Tryz.prog Rows.dayPhasesRow.wrapper Rows.dayPhasesRow.mainSum:=by
  unfold Func.isWrapper; first| (rw[if_pos (by decide +kernel)]; kernel_rfl)| (rw[if_neg (by decide +kernel)]; exact⟨rfl, rfl⟩)
end Go.Proofs.YtfhdodehnpbeoaaGreat
