/-
  No cell of these rows narrows 'for every input' (looked for: loops, veiled, ifaces, maps, wideKeys, modest, calm, conditions, laid).
  DERIVED. THE GIVEN ROWS OF THIS SEAT. 9 by the template 'for every input the law returns true; each argument reads behind the call as it read before'; 0 by the template 'total and deterministic' (their statements: YtfhdodehnpbeoaaGreatTotals.lean).
  GIVEN WITH THE SEED: the statements are not yours to turn. If you find one false, say at which input.
  Laid BY PROGRAM, IN A SANDBOX (cutbox-rows.mjs): the forced cells as the released guide's own fill.sh prints them over the translation 20729e245c79b1a9… (all of the seat's roots in one cut). By AI agents, Wed Nov 11 2026. No macro, syntax, notation, axiom, sorry.
-/
import Derived.Test.YtfhdodehnpbeoaaGreatChecked
import GoSem.Claim
import GoSem.ClaimJoined
import GoSem.ClaimMapViews
import Derived.JoinedTies
import Derived.KernelRfl
namespace Go.Proofs.YtfhdodehnpbeoaaGreat
/- THE CELL 'sum', in the pinned program and in every row, IS THE sha256 OF THE DUMP (.gsa) THAT YtfhdodehnpbeoaaGreatProg.lean LOADS. Nothing in Lean hashes anything: it is a label: what it is worth is what the hold of that sum in a sandbox is worth. -/
noncomputable def Tryz.pinned : Pinned := { name := "ytfhdodehnpbeoaagreat", sum := "20729e245c79b1a9201490a70bb88ea2885ad638f8153047af7f644103148e34", checked := Tryz.checked }
namespace Rows
def none {H : Type} : Left H := { results := [], args := [] }

/-- 'cambistlaw23.DaySettles': WHATEVER THE INPUT: true; the input reads as it did. -/
def daySettlesSpec : ChangeSpec := { name := "daySettles", fn := fun _ => fun
  | [d] => { results := [.lit (.bool true)], args := [d] }
  | _ => none }
def daySettlesRow : OpenClaim := { program := "ytfhdodehnpbeoaagreat", sum := "20729e245c79b1a9201490a70bb88ea2885ad638f8153047af7f644103148e34", func := "cambist/cambistlaw23.DaySettles", spec := "daySettles", inPlace := ["math/bits.Add64", "slices.overlaps[cambist/api.Member]"], unfollowed := true, recurses := true, named := ["math/bits.divideError", "math/bits.overflowError"], apart := false }
def DaySettlesSaid : Prop := daySettlesRow.holds Tryz.pinned (OpenSpec.ofChange daySettlesSpec)

/-- ITS FALSE NEIGHBOUR: 'it returns false'. Refute it at one input. -/
def daySettlesWrong : ChangeSpec := { name := "daySettles", fn := fun _ => fun
  | [d] => { results := [.lit (.bool false)], args := [d] }
  | _ => none }
def DaySettlesWrongFalsely : Prop := daySettlesRow.holds Tryz.pinned (OpenSpec.ofChange daySettlesWrong)

/-- 'cambistlaw23.DayCalls': WHATEVER THE INPUT: true; the input reads as it did. -/
def dayCallsSpec : ChangeSpec := { name := "dayCalls", fn := fun _ => fun
  | [d] => { results := [.lit (.bool true)], args := [d] }
  | _ => none }
def dayCallsRow : OpenClaim := { program := "ytfhdodehnpbeoaagreat", sum := "20729e245c79b1a9201490a70bb88ea2885ad638f8153047af7f644103148e34", func := "cambist/cambistlaw23.DayCalls", spec := "dayCalls", inPlace := ["math/bits.Add64", "slices.overlaps[cambist/api.Member]", "slices.overlaps[cambist/api.Call]"], unfollowed := true, recurses := true, named := ["math/bits.divideError", "math/bits.overflowError"], apart := false }
def DayCallsSaid : Prop := dayCallsRow.holds Tryz.pinned (OpenSpec.ofChange dayCallsSpec)

/-- ITS FALSE NEIGHBOUR: 'it returns false'. Refute it at one input. -/
def dayCallsWrong : ChangeSpec := { name := "dayCalls", fn := fun _ => fun
  | [d] => { results := [.lit (.bool false)], args := [d] }
  | _ => none }
def DayCallsWrongFalsely : Prop := dayCallsRow.holds Tryz.pinned (OpenSpec.ofChange dayCallsWrong)

/-- 'cambistlaw23.DayPhases': WHATEVER THE INPUT: true; the input reads as it did. -/
def dayPhasesSpec : ChangeSpec := { name := "dayPhases", fn := fun _ => fun
  | [d] => { results := [.lit (.bool true)], args := [d] }
  | _ => none }
def dayPhasesRow : OpenClaim := { program := "ytfhdodehnpbeoaagreat", sum := "20729e245c79b1a9201490a70bb88ea2885ad638f8153047af7f644103148e34", func := "cambist/cambistlaw23.DayPhases", spec := "dayPhases", inPlace := ["math/bits.Add64", "slices.overlaps[cambist/api.Call]", "slices.overlaps[cambist/api.Member]"], unfollowed := true, recurses := true, named := ["math/bits.divideError", "math/bits.overflowError"], apart := false }
def DayPhasesSaid : Prop := dayPhasesRow.holds Tryz.pinned (OpenSpec.ofChange dayPhasesSpec)

/-- ITS FALSE NEIGHBOUR: 'it returns false'. Refute it at one input. -/
def dayPhasesWrong : ChangeSpec := { name := "dayPhases", fn := fun _ => fun
  | [d] => { results := [.lit (.bool false)], args := [d] }
  | _ => none }
def DayPhasesWrongFalsely : Prop := dayPhasesRow.holds Tryz.pinned (OpenSpec.ofChange dayPhasesWrong)

/-- 'cambistlaw23.DayWhole': WHATEVER THE INPUT: true; the input reads as it did. -/
def dayWholeSpec : ChangeSpec := { name := "dayWhole", fn := fun _ => fun
  | [d] => { results := [.lit (.bool true)], args := [d] }
  | _ => none }
def dayWholeRow : OpenClaim := { program := "ytfhdodehnpbeoaagreat", sum := "20729e245c79b1a9201490a70bb88ea2885ad638f8153047af7f644103148e34", func := "cambist/cambistlaw23.DayWhole", spec := "dayWhole", inPlace := ["math/bits.Add64", "slices.overlaps[cambist/api.Member]", "slices.overlaps[cambist/api.Call]"], unfollowed := true, recurses := true, named := ["math/bits.divideError", "math/bits.overflowError"], apart := false }
def DayWholeSaid : Prop := dayWholeRow.holds Tryz.pinned (OpenSpec.ofChange dayWholeSpec)

/-- ITS FALSE NEIGHBOUR: 'it returns false'. Refute it at one input. -/
def dayWholeWrong : ChangeSpec := { name := "dayWhole", fn := fun _ => fun
  | [d] => { results := [.lit (.bool false)], args := [d] }
  | _ => none }
def DayWholeWrongFalsely : Prop := dayWholeRow.holds Tryz.pinned (OpenSpec.ofChange dayWholeWrong)

/-- 'cambistlaw23.DayBrings': WHATEVER THE INPUT: true; the input reads as it did. -/
def dayBringsSpec : ChangeSpec := { name := "dayBrings", fn := fun _ => fun
  | [d1, d2] => { results := [.lit (.bool true)], args := [d1, d2] }
  | _ => none }
def dayBringsRow : OpenClaim := { program := "ytfhdodehnpbeoaagreat", sum := "20729e245c79b1a9201490a70bb88ea2885ad638f8153047af7f644103148e34", func := "cambist/cambistlaw23.DayBrings", spec := "dayBrings", inPlace := ["math/bits.Add64", "slices.overlaps[cambist/api.Member]", "slices.overlaps[cambist/api.Call]"], unfollowed := true, recurses := true, named := ["math/bits.divideError", "math/bits.overflowError"], apart := false }
def DayBringsSaid : Prop := dayBringsRow.holds Tryz.pinned (OpenSpec.ofChange dayBringsSpec)

/-- ITS FALSE NEIGHBOUR: 'it returns false'. Refute it at one input. -/
def dayBringsWrong : ChangeSpec := { name := "dayBrings", fn := fun _ => fun
  | [d1, d2] => { results := [.lit (.bool false)], args := [d1, d2] }
  | _ => none }
def DayBringsWrongFalsely : Prop := dayBringsRow.holds Tryz.pinned (OpenSpec.ofChange dayBringsWrong)

/-- 'cambistlaw22.CloseFlat': WHATEVER THE INPUT: true; the input reads as it did. -/
def closeFlatSpec : ChangeSpec := { name := "closeFlat", fn := fun _ => fun
  | [d1, d2] => { results := [.lit (.bool true)], args := [d1, d2] }
  | _ => none }
def closeFlatRow : OpenClaim := { program := "ytfhdodehnpbeoaagreat", sum := "20729e245c79b1a9201490a70bb88ea2885ad638f8153047af7f644103148e34", func := "cambist/cambistlaw22.CloseFlat", spec := "closeFlat", inPlace := ["math/bits.Add64", "math/bits.Sub64", "slices.overlaps[cambist/api.Member]"], unfollowed := true, recurses := true, named := ["math/bits.divideError", "math/bits.overflowError"], apart := false }
def CloseFlatSaid : Prop := closeFlatRow.holds Tryz.pinned (OpenSpec.ofChange closeFlatSpec)

/-- ITS FALSE NEIGHBOUR: 'it returns false'. Refute it at one input. -/
def closeFlatWrong : ChangeSpec := { name := "closeFlat", fn := fun _ => fun
  | [d1, d2] => { results := [.lit (.bool false)], args := [d1, d2] }
  | _ => none }
def CloseFlatWrongFalsely : Prop := closeFlatRow.holds Tryz.pinned (OpenSpec.ofChange closeFlatWrong)

/-- 'cambistlaw22.CloseGreedy': WHATEVER THE INPUT: true; the input reads as it did. -/
def closeGreedySpec : ChangeSpec := { name := "closeGreedy", fn := fun _ => fun
  | [d1, d2] => { results := [.lit (.bool true)], args := [d1, d2] }
  | _ => none }
def closeGreedyRow : OpenClaim := { program := "ytfhdodehnpbeoaagreat", sum := "20729e245c79b1a9201490a70bb88ea2885ad638f8153047af7f644103148e34", func := "cambist/cambistlaw22.CloseGreedy", spec := "closeGreedy", inPlace := ["math/bits.Add64", "math/bits.Sub64", "slices.overlaps[cambist/api.Member]"], unfollowed := true, recurses := true, named := ["math/bits.divideError", "math/bits.overflowError"], apart := false }
def CloseGreedySaid : Prop := closeGreedyRow.holds Tryz.pinned (OpenSpec.ofChange closeGreedySpec)

/-- ITS FALSE NEIGHBOUR: 'it returns false'. Refute it at one input. -/
def closeGreedyWrong : ChangeSpec := { name := "closeGreedy", fn := fun _ => fun
  | [d1, d2] => { results := [.lit (.bool false)], args := [d1, d2] }
  | _ => none }
def CloseGreedyWrongFalsely : Prop := closeGreedyRow.holds Tryz.pinned (OpenSpec.ofChange closeGreedyWrong)

/-- 'cambistlaw22.CloseAlways': WHATEVER THE INPUT: true; the input reads as it did. -/
def closeAlwaysSpec : ChangeSpec := { name := "closeAlways", fn := fun _ => fun
  | [d1, d2] => { results := [.lit (.bool true)], args := [d1, d2] }
  | _ => none }
def closeAlwaysRow : OpenClaim := { program := "ytfhdodehnpbeoaagreat", sum := "20729e245c79b1a9201490a70bb88ea2885ad638f8153047af7f644103148e34", func := "cambist/cambistlaw22.CloseAlways", spec := "closeAlways", inPlace := ["math/bits.Add64", "math/bits.Sub64", "slices.overlaps[cambist/api.Member]"], unfollowed := true, recurses := true, named := ["math/bits.divideError", "math/bits.overflowError"], apart := false }
def CloseAlwaysSaid : Prop := closeAlwaysRow.holds Tryz.pinned (OpenSpec.ofChange closeAlwaysSpec)

/-- ITS FALSE NEIGHBOUR: 'it returns false'. Refute it at one input. -/
def closeAlwaysWrong : ChangeSpec := { name := "closeAlways", fn := fun _ => fun
  | [d1, d2] => { results := [.lit (.bool false)], args := [d1, d2] }
  | _ => none }
def CloseAlwaysWrongFalsely : Prop := closeAlwaysRow.holds Tryz.pinned (OpenSpec.ofChange closeAlwaysWrong)

/-- 'cambistlaw22.CloseBids': WHATEVER THE INPUT: true; the input reads as it did. -/
def closeBidsSpec : ChangeSpec := { name := "closeBids", fn := fun _ => fun
  | [d1, d2] => { results := [.lit (.bool true)], args := [d1, d2] }
  | _ => none }
def closeBidsRow : OpenClaim := { program := "ytfhdodehnpbeoaagreat", sum := "20729e245c79b1a9201490a70bb88ea2885ad638f8153047af7f644103148e34", func := "cambist/cambistlaw22.CloseBids", spec := "closeBids", inPlace := ["math/bits.Add64", "math/bits.Sub64", "slices.overlaps[cambist/api.Member]"], unfollowed := true, recurses := true, named := ["math/bits.divideError", "math/bits.overflowError"], apart := false }
def CloseBidsSaid : Prop := closeBidsRow.holds Tryz.pinned (OpenSpec.ofChange closeBidsSpec)

/-- ITS FALSE NEIGHBOUR: 'it returns false'. Refute it at one input. -/
def closeBidsWrong : ChangeSpec := { name := "closeBids", fn := fun _ => fun
  | [d1, d2] => { results := [.lit (.bool false)], args := [d1, d2] }
  | _ => none }
def CloseBidsWrongFalsely : Prop := closeBidsRow.holds Tryz.pinned (OpenSpec.ofChange closeBidsWrong)

/- THE SECOND FORM. 'bulk': how many values and letters a reading holds, each counted each time it is reached (what is shared counts as often as it is met; a slice's spare places count too). A statement '..UptoSaid' is the law's where the arguments, and the package variables that the reading takes, are together of bulk at most 1048576: NARROWER than '..Said'. Prove '..Said' where nothing that the law and all that it calls make is longer than what came in: it says more and counts as full. Else prove '..UptoSaid'. A law counts once. -/
mutual
def uptoBulk {H : Type} : DataW H → Nat
  | .lit (.string bytes) => bytes.length + 1
  | .lit _ => 1
  | .nil => 1
  | .ptr d => uptoBulk d + 1
  | .slice elems spare => uptoBulkAll elems + uptoBulkAll spare + 1
  | .agg parts => uptoBulkAll parts + 1
  | .iface _ d => uptoBulk d + 1
  | .map entries => uptoBulkEntries entries + 1
  | .held _ => 1
def uptoBulkAll {H : Type} : List (DataW H) → Nat
  | [] => 0
  | d :: r => uptoBulk d + uptoBulkAll r
def uptoBulkEntries {H : Type} : List (Lit × DataW H) → Nat
  | [] => 0
  | x :: r => uptoBulkEntry x + uptoBulkEntries r
def uptoBulkEntry {H : Type} : Lit × DataW H → Nat
  | (.string bytes, d) => bytes.length + uptoBulk d + 1
  | (_, d) => uptoBulk d + 1
 end
def uptoSmall : (H : Type) → List (DataW H) → Bool := fun _ ds => decide (uptoBulkAll ds ≤ 1048576)
def OpenSpec.upto (s : _root_.Go.ChangeSpec) : _root_.Go.OpenSpec := { _root_.Go.OpenSpec.ofChange s with cond := some uptoSmall }

/-- 'cambistlaw23.DaySettles', WHERE WHAT IT READS IS OF BULK AT MOST 1048576: true; the input reads as it did. -/
def daySettlesUptoRow : OpenClaim := { program := "ytfhdodehnpbeoaagreat", sum := "20729e245c79b1a9201490a70bb88ea2885ad638f8153047af7f644103148e34", func := "cambist/cambistlaw23.DaySettles", spec := "daySettles", inPlace := ["math/bits.Add64", "slices.overlaps[cambist/api.Member]"], unfollowed := true, recurses := true, named := ["math/bits.divideError", "math/bits.overflowError"], apart := false, narrowed := true }
def DaySettlesUptoSaid : Prop := daySettlesUptoRow.holds Tryz.pinned (OpenSpec.upto daySettlesSpec)

/-- 'cambistlaw23.DayCalls', WHERE WHAT IT READS IS OF BULK AT MOST 1048576: true; the input reads as it did. -/
def dayCallsUptoRow : OpenClaim := { program := "ytfhdodehnpbeoaagreat", sum := "20729e245c79b1a9201490a70bb88ea2885ad638f8153047af7f644103148e34", func := "cambist/cambistlaw23.DayCalls", spec := "dayCalls", inPlace := ["math/bits.Add64", "slices.overlaps[cambist/api.Member]", "slices.overlaps[cambist/api.Call]"], unfollowed := true, recurses := true, named := ["math/bits.divideError", "math/bits.overflowError"], apart := false, narrowed := true }
def DayCallsUptoSaid : Prop := dayCallsUptoRow.holds Tryz.pinned (OpenSpec.upto dayCallsSpec)

/-- 'cambistlaw23.DayPhases', WHERE WHAT IT READS IS OF BULK AT MOST 1048576: true; the input reads as it did. -/
def dayPhasesUptoRow : OpenClaim := { program := "ytfhdodehnpbeoaagreat", sum := "20729e245c79b1a9201490a70bb88ea2885ad638f8153047af7f644103148e34", func := "cambist/cambistlaw23.DayPhases", spec := "dayPhases", inPlace := ["math/bits.Add64", "slices.overlaps[cambist/api.Call]", "slices.overlaps[cambist/api.Member]"], unfollowed := true, recurses := true, named := ["math/bits.divideError", "math/bits.overflowError"], apart := false, narrowed := true }
def DayPhasesUptoSaid : Prop := dayPhasesUptoRow.holds Tryz.pinned (OpenSpec.upto dayPhasesSpec)

/-- 'cambistlaw23.DayWhole', WHERE WHAT IT READS IS OF BULK AT MOST 1048576: true; the input reads as it did. -/
def dayWholeUptoRow : OpenClaim := { program := "ytfhdodehnpbeoaagreat", sum := "20729e245c79b1a9201490a70bb88ea2885ad638f8153047af7f644103148e34", func := "cambist/cambistlaw23.DayWhole", spec := "dayWhole", inPlace := ["math/bits.Add64", "slices.overlaps[cambist/api.Member]", "slices.overlaps[cambist/api.Call]"], unfollowed := true, recurses := true, named := ["math/bits.divideError", "math/bits.overflowError"], apart := false, narrowed := true }
def DayWholeUptoSaid : Prop := dayWholeUptoRow.holds Tryz.pinned (OpenSpec.upto dayWholeSpec)

/-- 'cambistlaw23.DayBrings', WHERE WHAT IT READS IS OF BULK AT MOST 1048576: true; the input reads as it did. -/
def dayBringsUptoRow : OpenClaim := { program := "ytfhdodehnpbeoaagreat", sum := "20729e245c79b1a9201490a70bb88ea2885ad638f8153047af7f644103148e34", func := "cambist/cambistlaw23.DayBrings", spec := "dayBrings", inPlace := ["math/bits.Add64", "slices.overlaps[cambist/api.Member]", "slices.overlaps[cambist/api.Call]"], unfollowed := true, recurses := true, named := ["math/bits.divideError", "math/bits.overflowError"], apart := false, narrowed := true }
def DayBringsUptoSaid : Prop := dayBringsUptoRow.holds Tryz.pinned (OpenSpec.upto dayBringsSpec)

/-- 'cambistlaw22.CloseFlat', WHERE WHAT IT READS IS OF BULK AT MOST 1048576: true; the input reads as it did. -/
def closeFlatUptoRow : OpenClaim := { program := "ytfhdodehnpbeoaagreat", sum := "20729e245c79b1a9201490a70bb88ea2885ad638f8153047af7f644103148e34", func := "cambist/cambistlaw22.CloseFlat", spec := "closeFlat", inPlace := ["math/bits.Add64", "math/bits.Sub64", "slices.overlaps[cambist/api.Member]"], unfollowed := true, recurses := true, named := ["math/bits.divideError", "math/bits.overflowError"], apart := false, narrowed := true }
def CloseFlatUptoSaid : Prop := closeFlatUptoRow.holds Tryz.pinned (OpenSpec.upto closeFlatSpec)

/-- 'cambistlaw22.CloseGreedy', WHERE WHAT IT READS IS OF BULK AT MOST 1048576: true; the input reads as it did. -/
def closeGreedyUptoRow : OpenClaim := { program := "ytfhdodehnpbeoaagreat", sum := "20729e245c79b1a9201490a70bb88ea2885ad638f8153047af7f644103148e34", func := "cambist/cambistlaw22.CloseGreedy", spec := "closeGreedy", inPlace := ["math/bits.Add64", "math/bits.Sub64", "slices.overlaps[cambist/api.Member]"], unfollowed := true, recurses := true, named := ["math/bits.divideError", "math/bits.overflowError"], apart := false, narrowed := true }
def CloseGreedyUptoSaid : Prop := closeGreedyUptoRow.holds Tryz.pinned (OpenSpec.upto closeGreedySpec)

/-- 'cambistlaw22.CloseAlways', WHERE WHAT IT READS IS OF BULK AT MOST 1048576: true; the input reads as it did. -/
def closeAlwaysUptoRow : OpenClaim := { program := "ytfhdodehnpbeoaagreat", sum := "20729e245c79b1a9201490a70bb88ea2885ad638f8153047af7f644103148e34", func := "cambist/cambistlaw22.CloseAlways", spec := "closeAlways", inPlace := ["math/bits.Add64", "math/bits.Sub64", "slices.overlaps[cambist/api.Member]"], unfollowed := true, recurses := true, named := ["math/bits.divideError", "math/bits.overflowError"], apart := false, narrowed := true }
def CloseAlwaysUptoSaid : Prop := closeAlwaysUptoRow.holds Tryz.pinned (OpenSpec.upto closeAlwaysSpec)

/-- 'cambistlaw22.CloseBids', WHERE WHAT IT READS IS OF BULK AT MOST 1048576: true; the input reads as it did. -/
def closeBidsUptoRow : OpenClaim := { program := "ytfhdodehnpbeoaagreat", sum := "20729e245c79b1a9201490a70bb88ea2885ad638f8153047af7f644103148e34", func := "cambist/cambistlaw22.CloseBids", spec := "closeBids", inPlace := ["math/bits.Add64", "math/bits.Sub64", "slices.overlaps[cambist/api.Member]"], unfollowed := true, recurses := true, named := ["math/bits.divideError", "math/bits.overflowError"], apart := false, narrowed := true }
def CloseBidsUptoSaid : Prop := closeBidsUptoRow.holds Tryz.pinned (OpenSpec.upto closeBidsSpec)

end Rows
end Go.Proofs.YtfhdodehnpbeoaaGreat
