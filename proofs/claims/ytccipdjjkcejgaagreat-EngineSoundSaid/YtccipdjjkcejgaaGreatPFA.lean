/- The closed facts of EngineSound's row; no theorem of a claim. -/
import Derived.Test.YtccipdjjkcejgaaGreatChecked
import Derived.Test.YtccipdjjkcejgaaGreatRows
import Derived.JoinedOf
import Derived.Test.YtccipdjjkcejgaaGreatAB
set_option linter.unusedSimpArgs false
set_option linter.unusedVariables false
open Go.Proofs.YtccipdjjkcejgaaGreat.Rows Go.Proofs.Tryz
namespace Go.Proofs.YtccipdjjkcejgaaGreat
open Go.ChangeShapes Go.WideShapes Go.ChangeAt Go.RowKit Go.Abs
theorem aai {a b:Bool} (c:a=true) (d:b=true):(a&&b)=true:=by rw [c,d];rfl
set_option maxRecDepth 100000 in
set_option maxHeartbeats 40000000 in
theorem ad2:joinedFacts prog 4 f4 engineSoundSpec engineSoundRow=true:=by
 unfold joinedFacts;repeat' with_reducible apply aai
 all_goals as_aux_lemma=>kernel_rfl
theorem agA:prog.funcNamed engineSoundRow.func=some 4:=by kernel_rfl
theorem agM:decide (f4.isInstance prog engineSoundRow.origin engineSoundRow.targs)=true:=by kernel_rfl
set_option maxHeartbeats 2000000 in
theorem agS:f4.isWrapper prog engineSoundRow.wrapper engineSoundRow.mainSum:=by
 unfold Func.isWrapper;first | (rw [if_pos (by decide +kernel)];kernel_rfl) | (rw [if_neg (by decide +kernel)];exact ⟨rfl,rfl⟩)
end Go.Proofs.YtccipdjjkcejgaaGreat
