/- An own slice that a callee takes as a box. No theorem of a claim. -/
import Derived.Test.YtnkobepdbkmedaaGreatDoorAbcHard2
set_option linter.unusedSimpArgs false
set_option linter.unusedVariables false
namespace Go.Abs
section
variable {P:Program}
end
def oP:D->Bool
 | .undef | .bool _ | .int _ _ | .str _ | .nil | .emp | .jm | .eH | .fH | .kU | .sl _ _ | .bN _=>true
 | _=>false
theorem TZ {rh:Nat->Option Nat} {lv:Nat->Bool} {d:D} (h:oP d=true):jG rh lv d d:=by
 cases d<;>first | (cases h;done) | simp [jG]
theorem fq {rh:Nat->Option Nat} {lv:Nat->Bool}:∀ {X:List D},(∀ d∈X,oP d=true)->mW rh lv X X
 | [],_=>by simp [mW]
 | d :: X,h=>by
  simp only [mW];exact ⟨TZ (h d (by simp)),fq fun x hx=>h x (by simp [hx])⟩
end Go.Abs
