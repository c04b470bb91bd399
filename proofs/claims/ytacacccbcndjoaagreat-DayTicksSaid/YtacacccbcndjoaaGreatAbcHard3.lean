/- An own slice that a callee takes as a box. No theorem of a claim. -/
import Derived.Test.YtacacccbcndjoaaGreatAbcHard2
set_option linter.unusedSimpArgs false
set_option linter.unusedVariables false
namespace Go.Abs
section
variable {P:Program}
end
def sS:D->Bool
 | .undef | .bool _ | .int _ _ | .str _ | .nil | .emp | .iP | .eM | .fu | .j4 | .sl _ _ | .bI _=>true
 | _=>false
theorem Rq {rh:Nat->Option Nat} {lv:Nat->Bool} {d:D} (h:sS d=true):jh rh lv d d:=by
 cases d<;>first | (cases h;done) | simp [jh]
theorem gA {rh:Nat->Option Nat} {lv:Nat->Bool}:∀ {X:List D},(∀ d∈X,sS d=true)->lG rh lv X X
 | [],_=>by simp [lG]
 | d :: X,h=>by
  simp only [lG];exact ⟨Rq (h d (by simp)),gA fun x hx=>h x (by simp [hx])⟩
end Go.Abs
