/- The closed facts of EngineTrades's row; no theorem of a claim. -/
import Derived.Test.YtccipdjjkcejgaaGreatChecked
import Derived.Test.YtccipdjjkcejgaaGreatRows
import Derived.JoinedOf
import Derived.Test.YtccipdjjkcejgaaGreatAB
set_option linter.unusedSimpArgs false
set_option linter.unusedVariables false
open Go.Proofs.YtccipdjjkcejgaaGreat.Rows Go.Proofs.Tryz
namespace Go.Proofs.YtccipdjjkcejgaaGreat
open Go.ChangeShapes Go.WideShapes Go.ChangeAt Go.RowKit Go.Abs
theorem aai {a b:Bool} (c:a=true) (d:b=true):(a&&b)=true:=by rw [c,d];rfl
set_option maxRecDepth 100000 in
set_option maxHeartbeats 40000000 in
theorem ad2:joinedFacts prog 9 f9 engineTradesSpec engineTradesRow=true:=by
 unfold joinedFacts;repeat' with_reducible apply aai
 all_goals as_aux_lemma=>kernel_rfl
theorem agA:prog.funcNamed engineTradesRow.func=some 9:=by kernel_rfl
theorem agM:decide (f9.isInstance prog engineTradesRow.origin engineTradesRow.targs)=true:=by kernel_rfl
set_option maxHeartbeats 2000000 in
theorem agS:f9.isWrapper prog engineTradesRow.wrapper engineTradesRow.mainSum:=by
 unfold Func.isWrapper;first | (rw [if_pos (by decide +kernel)];kernel_rfl) | (rw [if_neg (by decide +kernel)];exact ⟨rfl,rfl⟩)
end Go.Proofs.YtccipdjjkcejgaaGreat
