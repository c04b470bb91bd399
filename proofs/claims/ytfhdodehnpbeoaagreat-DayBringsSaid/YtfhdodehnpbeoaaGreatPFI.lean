/- The closed facts of DayBrings's row; no theorem of a claim. -/
import Derived.Test.YtfhdodehnpbeoaaGreatChecked
import Derived.Test.YtfhdodehnpbeoaaGreatRows
import Derived.JoinedOf
set_option linter.unusedSimpArgs false
set_option linter.unusedVariables false
namespace Go.Proofs.YtfhdodehnpbeoaaGreat
theorem fA{a b:Bool}(c:a=true)(d:b=true):(a&&b)=true:=by rw[c, d]; rfl
set_option maxRecDepth 100000 in
set_option maxHeartbeats 40000000 in
theorem fJ:joinedFacts Tryz.prog 7 Tryz.f7 Rows.dayBringsSpec Rows.dayBringsRow=true:=by
  unfold joinedFacts;repeat' with_reducible apply fA
  all_goals as_aux_lemma=>kernel_rfl
theorem fN:Tryz.prog.funcNamed Rows.dayBringsRow.func=some 7:=by kernel_rfl
theorem fI:decide (Tryz.f7.isInstance Tryz.prog Rows.dayBringsRow.origin Rows.dayBringsRow.targs)=true:=by kernel_rfl
set_option maxHeartbeats 2000000 in
theorem fW:Tryz.f7.isWrapper Tryz.prog Rows.dayBringsRow.wrapper Rows.dayBringsRow.mainSum:=by
  unfold Func.isWrapper; first| (rw[if_pos (by decide +kernel)]; kernel_rfl)| (rw[if_neg (by decide +kernel)]; exact⟨rfl, rfl⟩)
end Go.Proofs.YtfhdodehnpbeoaaGreat
