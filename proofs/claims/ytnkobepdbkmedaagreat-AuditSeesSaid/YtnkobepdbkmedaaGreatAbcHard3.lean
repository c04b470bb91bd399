/- An own slice that a callee takes as a box. No theorem of a claim. -/
import Derived.Test.YtnkobepdbkmedaaGreatAbcHard2
set_option linter.unusedSimpArgs false
set_option linter.unusedVariables false
namespace Go.Abs
section
variable {P:Program}
end
def sv:D->Bool
 | .undef | .bool _ | .int _ _ | .str _ | .nil | .emp | .ew | .eJ | .fq | .j5 | .sl _ _ | .bF _=>true
 | _=>false
theorem Qx {rh:Nat->Option Nat} {lv:Nat->Bool} {d:D} (h:sv d=true):jf rh lv d d:=by
 cases d<;>first | (cases h;done) | simp [jf]
theorem gr {rh:Nat->Option Nat} {lv:Nat->Bool}:∀ {X:List D},(∀ d∈X,sv d=true)->kV rh lv X X
 | [],_=>by simp [kV]
 | d :: X,h=>by
  simp only [kV];exact ⟨Qx (h d (by simp)),gr fun x hx=>h x (by simp [hx])⟩
end Go.Abs
