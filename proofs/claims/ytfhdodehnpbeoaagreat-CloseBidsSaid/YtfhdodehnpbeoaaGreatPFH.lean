/- The closed facts of CloseBids's row; no theorem of a claim. -/
import Derived.Test.YtfhdodehnpbeoaaGreatChecked
import Derived.Test.YtfhdodehnpbeoaaGreatRows
import Derived.JoinedOf
set_option linter.unusedSimpArgs false
set_option linter.unusedVariables false
namespace Go.Proofs.YtfhdodehnpbeoaaGreat
theorem fA{a b:Bool}(c:a=true)(d:b=true):(a&&b)=true:=by rw[c, d]; rfl
set_option maxRecDepth 100000 in
set_option maxHeartbeats 40000000 in
theorem fJ:joinedFacts Tryz.prog 11 Tryz.f11 Rows.closeBidsSpec Rows.closeBidsRow=true:=by
  unfold joinedFacts;repeat' with_reducible apply fA
  all_goals as_aux_lemma=>kernel_rfl
theorem fN:Tryz.prog.funcNamed Rows.closeBidsRow.func=some 11:=by kernel_rfl
theorem fI:decide (Tryz.f11.isInstance Tryz.prog Rows.closeBidsRow.origin Rows.closeBidsRow.targs)=true:=by kernel_rfl
set_option maxHeartbeats 2000000 in
theorem fW:Tryz.f11.isWrapper Tryz.prog Rows.closeBidsRow.wrapper Rows.closeBidsRow.mainSum:=by
  unfold Func.isWrapper; first| (rw[if_pos (by decide +kernel)]; kernel_rfl)| (rw[if_neg (by decide +kernel)]; exact⟨rfl, rfl⟩)
end Go.Proofs.YtfhdodehnpbeoaaGreat
