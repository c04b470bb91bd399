/- An own slice that a callee takes as a box. No theorem of a claim. -/
import Derived.Test.YtnkobepdbkmedaaGreatAbcHard2
set_option linter.unusedSimpArgs false
set_option linter.unusedVariables false
namespace Go.Abs
section
variable {P:Program}
end
def sY:D->Bool
 | .undef | .bool _ | .int _ _ | .str _ | .nil | .emp | .iP | .eH | .fq | .j7 | .sl _ _ | .bF _=>true
 | _=>false
theorem QC {rh:Nat->Option Nat} {lv:Nat->Bool} {d:D} (h:sY d=true):jg rh lv d d:=by
 cases d<;>first | (cases h;done) | simp [jg]
theorem gv {rh:Nat->Option Nat} {lv:Nat->Bool}:∀ {X:List D},(∀ d∈X,sY d=true)->kX rh lv X X
 | [],_=>by simp [kX]
 | d :: X,h=>by
  simp only [kX];exact ⟨QC (h d (by simp)),gv fun x hx=>h x (by simp [hx])⟩
end Go.Abs
