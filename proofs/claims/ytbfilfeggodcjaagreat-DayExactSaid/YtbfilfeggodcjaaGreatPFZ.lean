/- The closed facts of DayExact's row; no theorem of a claim. -/
import Derived.Test.YtbfilfeggodcjaaGreatChecked
import Derived.Test.YtbfilfeggodcjaaGreatRows
import Derived.JoinedOf
set_option linter.unusedSimpArgs false
set_option linter.unusedVariables false
namespace Go.Proofs.YtbfilfeggodcjaaGreat
theorem fA{a b:Bool}(c:a=true)(d:b=true):(a&&b)=true:=by rw[c, d]; rfl
set_option maxRecDepth 100000 in
set_option maxHeartbeats 40000000 in
theorem fJ:joinedFacts Tryz.prog 3 Tryz.f3 Rows.dayExactSpec Rows.dayExactRow=true:=by
  unfold joinedFacts;repeat' with_reducible apply fA
  all_goals as_aux_lemma=>kernel_rfl
theorem fN:Tryz.prog.funcNamed Rows.dayExactRow.func=some 3:=by kernel_rfl
theorem fI:decide (Tryz.f3.isInstance Tryz.prog Rows.dayExactRow.origin Rows.dayExactRow.targs)=true:=by kernel_rfl
set_option maxHeartbeats 2000000 in
theorem fW:Tryz.f3.isWrapper Tryz.prog Rows.dayExactRow.wrapper Rows.dayExactRow.mainSum:=by
  unfold Func.isWrapper; first| (rw[if_pos (by decide +kernel)]; kernel_rfl)| (rw[if_neg (by decide +kernel)]; exact⟨rfl, rfl⟩)
end Go.Proofs.YtbfilfeggodcjaaGreat
