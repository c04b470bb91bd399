/- An own slice that a callee takes as a box. No theorem of a claim. -/
import Derived.Test.YtgnhdbdipfncgaaGreatAbcHard2
set_option linter.unusedSimpArgs false
set_option linter.unusedVariables false
namespace Go.Abs
section
variable {P:Program}
end
def leafB:D->Bool
 | .undef | .bool _ | .int _ _ | .str _ | .nil | .emp | .nilfn | .nilif | .someif | .nilp | .sl _ _ | .eaddr _=>true
 | _=>false
theorem leD_leaf {rh:Nat->Option Nat} {lv:Nat->Bool} {d:D} (h:leafB d=true):leD rh lv d d:=by
 cases d<;>first | (cases h;done) | simp [leD]
theorem leDL_leaf {rh:Nat->Option Nat} {lv:Nat->Bool}:∀ {X:List D},(∀ d∈X,leafB d=true)->leDL rh lv X X
 | [],_=>by simp [leDL]
 | d :: X,h=>by
  simp only [leDL];exact ⟨leD_leaf (h d (by simp)),leDL_leaf fun x hx=>h x (by simp [hx])⟩
end Go.Abs
