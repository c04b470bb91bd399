/-
  No cell of these rows narrows 'for every input' (looked for: loops, veiled, ifaces, maps, wideKeys, modest, calm, conditions, laid).
  DERIVED. THE GIVEN ROWS OF THIS SEAT. 5 by the template 'for every input the law returns true; each argument reads behind the call as it read before'; 0 by the template 'total and deterministic' (their statements: YtgnhdbdipfncgaaGreatTotals.lean).
  GIVEN WITH THE SEED: the statements are not yours to turn. If you find one false, say at which input.
  Laid BY PROGRAM, IN A SANDBOX (cutbox-rows.mjs): the forced cells as the released guide's own fill.sh prints them over the translation 54aef207f358120a… (all of the seat's roots in one cut). By AI agents, Wed Nov 11 2026. No macro, syntax, notation, axiom, sorry.
-/
import Derived.Test.YtgnhdbdipfncgaaGreatChecked
import GoSem.Claim
import GoSem.ClaimJoined
import GoSem.ClaimMapViews
import Derived.JoinedTies
import Derived.KernelRfl
namespace Go.Proofs.YtgnhdbdipfncgaaGreat
/- THE CELL 'sum', in the pinned program and in every row, IS THE sha256 OF THE DUMP (.gsa) THAT YtgnhdbdipfncgaaGreatProg.lean LOADS. Nothing in Lean hashes anything: it is a label: what it is worth is what the hold of that sum in a sandbox is worth. -/
noncomputable def Tryz.pinned : Pinned := { name := "ytgnhdbdipfncgaagreat", sum := "54aef207f358120ad6640c239b251b0aaa89aab3031e953c8f67d4fe6dd16c26", checked := Tryz.checked }
namespace Rows
def none {H : Type} : Left H := { results := [], args := [] }

/-- 'cambistlaw27.AuditHolds': WHATEVER THE INPUT: true; the input reads as it did. -/
def auditHoldsSpec : ChangeSpec := { name := "auditHolds", fn := fun _ => fun
  | [d] => { results := [.lit (.bool true)], args := [d] }
  | _ => none }
def auditHoldsRow : OpenClaim := { program := "ytgnhdbdipfncgaagreat", sum := "54aef207f358120ad6640c239b251b0aaa89aab3031e953c8f67d4fe6dd16c26", func := "cambist/cambistlaw27.AuditHolds", spec := "auditHolds", inPlace := ["math/bits.Add64"], unfollowed := true, recurses := true, named := ["math/bits.divideError", "math/bits.overflowError"], apart := false }
def AuditHoldsSaid : Prop := auditHoldsRow.holds Tryz.pinned (OpenSpec.ofChange auditHoldsSpec)

/-- ITS FALSE NEIGHBOUR: 'it returns false'. Refute it at one input. -/
def auditHoldsWrong : ChangeSpec := { name := "auditHolds", fn := fun _ => fun
  | [d] => { results := [.lit (.bool false)], args := [d] }
  | _ => none }
def AuditHoldsWrongFalsely : Prop := auditHoldsRow.holds Tryz.pinned (OpenSpec.ofChange auditHoldsWrong)

/-- 'cambistlaw27.AuditSees': WHATEVER THE INPUT: true; the input reads as it did. -/
def auditSeesSpec : ChangeSpec := { name := "auditSees", fn := fun _ => fun
  | [d1, d2, d3] => { results := [.lit (.bool true)], args := [d1, d2, d3] }
  | _ => none }
def auditSeesRow : OpenClaim := { program := "ytgnhdbdipfncgaagreat", sum := "54aef207f358120ad6640c239b251b0aaa89aab3031e953c8f67d4fe6dd16c26", func := "cambist/cambistlaw27.AuditSees", spec := "auditSees", inPlace := ["math/bits.Add64"], unfollowed := true, recurses := true, named := ["math/bits.divideError", "math/bits.overflowError"], apart := false }
def AuditSeesSaid : Prop := auditSeesRow.holds Tryz.pinned (OpenSpec.ofChange auditSeesSpec)

/-- ITS FALSE NEIGHBOUR: 'it returns false'. Refute it at one input. -/
def auditSeesWrong : ChangeSpec := { name := "auditSees", fn := fun _ => fun
  | [d1, d2, d3] => { results := [.lit (.bool false)], args := [d1, d2, d3] }
  | _ => none }
def AuditSeesWrongFalsely : Prop := auditSeesRow.holds Tryz.pinned (OpenSpec.ofChange auditSeesWrong)

/-- 'cambistlaw27.AuditKinds': WHATEVER THE INPUT: true; the input reads as it did. -/
def auditKindsSpec : ChangeSpec := { name := "auditKinds", fn := fun _ => fun
  | [d1, d2] => { results := [.lit (.bool true)], args := [d1, d2] }
  | _ => none }
def auditKindsRow : OpenClaim := { program := "ytgnhdbdipfncgaagreat", sum := "54aef207f358120ad6640c239b251b0aaa89aab3031e953c8f67d4fe6dd16c26", func := "cambist/cambistlaw27.AuditKinds", spec := "auditKinds", inPlace := ["math/bits.Add64"], unfollowed := true, recurses := true, named := ["math/bits.divideError", "math/bits.overflowError"], apart := false }
def AuditKindsSaid : Prop := auditKindsRow.holds Tryz.pinned (OpenSpec.ofChange auditKindsSpec)

/-- ITS FALSE NEIGHBOUR: 'it returns false'. Refute it at one input. -/
def auditKindsWrong : ChangeSpec := { name := "auditKinds", fn := fun _ => fun
  | [d1, d2] => { results := [.lit (.bool false)], args := [d1, d2] }
  | _ => none }
def AuditKindsWrongFalsely : Prop := auditKindsRow.holds Tryz.pinned (OpenSpec.ofChange auditKindsWrong)

/-- 'cambistlaw23.DaySettles': WHATEVER THE INPUT: true; the input reads as it did. -/
def daySettlesSpec : ChangeSpec := { name := "daySettles", fn := fun _ => fun
  | [d] => { results := [.lit (.bool true)], args := [d] }
  | _ => none }
def daySettlesRow : OpenClaim := { program := "ytgnhdbdipfncgaagreat", sum := "54aef207f358120ad6640c239b251b0aaa89aab3031e953c8f67d4fe6dd16c26", func := "cambist/cambistlaw23.DaySettles", spec := "daySettles", inPlace := ["math/bits.Add64", "slices.overlaps[cambist/api.Member]"], unfollowed := true, recurses := true, named := ["math/bits.divideError", "math/bits.overflowError"], apart := false }
def DaySettlesSaid : Prop := daySettlesRow.holds Tryz.pinned (OpenSpec.ofChange daySettlesSpec)

/-- ITS FALSE NEIGHBOUR: 'it returns false'. Refute it at one input. -/
def daySettlesWrong : ChangeSpec := { name := "daySettles", fn := fun _ => fun
  | [d] => { results := [.lit (.bool false)], args := [d] }
  | _ => none }
def DaySettlesWrongFalsely : Prop := daySettlesRow.holds Tryz.pinned (OpenSpec.ofChange daySettlesWrong)

/-- 'cambistlaw22.CloseFlat': WHATEVER THE INPUT: true; the input reads as it did. -/
def closeFlatSpec : ChangeSpec := { name := "closeFlat", fn := fun _ => fun
  | [d1, d2] => { results := [.lit (.bool true)], args := [d1, d2] }
  | _ => none }
def closeFlatRow : OpenClaim := { program := "ytgnhdbdipfncgaagreat", sum := "54aef207f358120ad6640c239b251b0aaa89aab3031e953c8f67d4fe6dd16c26", func := "cambist/cambistlaw22.CloseFlat", spec := "closeFlat", inPlace := ["math/bits.Add64", "math/bits.Sub64", "slices.overlaps[cambist/api.Member]"], unfollowed := true, recurses := true, named := ["math/bits.divideError", "math/bits.overflowError"], apart := false }
def CloseFlatSaid : Prop := closeFlatRow.holds Tryz.pinned (OpenSpec.ofChange closeFlatSpec)

/-- ITS FALSE NEIGHBOUR: 'it returns false'. Refute it at one input. -/
def closeFlatWrong : ChangeSpec := { name := "closeFlat", fn := fun _ => fun
  | [d1, d2] => { results := [.lit (.bool false)], args := [d1, d2] }
  | _ => none }
def CloseFlatWrongFalsely : Prop := closeFlatRow.holds Tryz.pinned (OpenSpec.ofChange closeFlatWrong)

/- THE SECOND FORM. 'bulk': how many values and letters a reading holds, each counted each time it is reached (what is shared counts as often as it is met; a slice's spare places count too). A statement '..UptoSaid' is the law's where the arguments, and the package variables that the reading takes, are together of bulk at most 1048576: NARROWER than '..Said'. Prove '..Said' where nothing that the law and all that it calls make is longer than what came in: it says more and counts as full. Else prove '..UptoSaid'. A law counts once. -/
mutual
def uptoBulk {H : Type} : DataW H → Nat
  | .lit (.string bytes) => bytes.length + 1
  | .lit _ => 1
  | .nil => 1
  | .ptr d => uptoBulk d + 1
  | .slice elems spare => uptoBulkAll elems + uptoBulkAll spare + 1
  | .agg parts => uptoBulkAll parts + 1
  | .iface _ d => uptoBulk d + 1
  | .map entries => uptoBulkEntries entries + 1
  | .held _ => 1
def uptoBulkAll {H : Type} : List (DataW H) → Nat
  | [] => 0
  | d :: r => uptoBulk d + uptoBulkAll r
def uptoBulkEntries {H : Type} : List (Lit × DataW H) → Nat
  | [] => 0
  | x :: r => uptoBulkEntry x + uptoBulkEntries r
def uptoBulkEntry {H : Type} : Lit × DataW H → Nat
  | (.string bytes, d) => bytes.length + uptoBulk d + 1
  | (_, d) => uptoBulk d + 1
 end
def uptoSmall : (H : Type) → List (DataW H) → Bool := fun _ ds => decide (uptoBulkAll ds ≤ 1048576)
def OpenSpec.upto (s : _root_.Go.ChangeSpec) : _root_.Go.OpenSpec := { _root_.Go.OpenSpec.ofChange s with cond := some uptoSmall }

/-- 'cambistlaw27.AuditHolds', WHERE WHAT IT READS IS OF BULK AT MOST 1048576: true; the input reads as it did. -/
def auditHoldsUptoRow : OpenClaim := { program := "ytgnhdbdipfncgaagreat", sum := "54aef207f358120ad6640c239b251b0aaa89aab3031e953c8f67d4fe6dd16c26", func := "cambist/cambistlaw27.AuditHolds", spec := "auditHolds", inPlace := ["math/bits.Add64"], unfollowed := true, recurses := true, named := ["math/bits.divideError", "math/bits.overflowError"], apart := false, narrowed := true }
def AuditHoldsUptoSaid : Prop := auditHoldsUptoRow.holds Tryz.pinned (OpenSpec.upto auditHoldsSpec)

/-- 'cambistlaw27.AuditSees', WHERE WHAT IT READS IS OF BULK AT MOST 1048576: true; the input reads as it did. -/
def auditSeesUptoRow : OpenClaim := { program := "ytgnhdbdipfncgaagreat", sum := "54aef207f358120ad6640c239b251b0aaa89aab3031e953c8f67d4fe6dd16c26", func := "cambist/cambistlaw27.AuditSees", spec := "auditSees", inPlace := ["math/bits.Add64"], unfollowed := true, recurses := true, named := ["math/bits.divideError", "math/bits.overflowError"], apart := false, narrowed := true }
def AuditSeesUptoSaid : Prop := auditSeesUptoRow.holds Tryz.pinned (OpenSpec.upto auditSeesSpec)

/-- 'cambistlaw27.AuditKinds', WHERE WHAT IT READS IS OF BULK AT MOST 1048576: true; the input reads as it did. -/
def auditKindsUptoRow : OpenClaim := { program := "ytgnhdbdipfncgaagreat", sum := "54aef207f358120ad6640c239b251b0aaa89aab3031e953c8f67d4fe6dd16c26", func := "cambist/cambistlaw27.AuditKinds", spec := "auditKinds", inPlace := ["math/bits.Add64"], unfollowed := true, recurses := true, named := ["math/bits.divideError", "math/bits.overflowError"], apart := false, narrowed := true }
def AuditKindsUptoSaid : Prop := auditKindsUptoRow.holds Tryz.pinned (OpenSpec.upto auditKindsSpec)

/-- 'cambistlaw23.DaySettles', WHERE WHAT IT READS IS OF BULK AT MOST 1048576: true; the input reads as it did. -/
def daySettlesUptoRow : OpenClaim := { program := "ytgnhdbdipfncgaagreat", sum := "54aef207f358120ad6640c239b251b0aaa89aab3031e953c8f67d4fe6dd16c26", func := "cambist/cambistlaw23.DaySettles", spec := "daySettles", inPlace := ["math/bits.Add64", "slices.overlaps[cambist/api.Member]"], unfollowed := true, recurses := true, named := ["math/bits.divideError", "math/bits.overflowError"], apart := false, narrowed := true }
def DaySettlesUptoSaid : Prop := daySettlesUptoRow.holds Tryz.pinned (OpenSpec.upto daySettlesSpec)

/-- 'cambistlaw22.CloseFlat', WHERE WHAT IT READS IS OF BULK AT MOST 1048576: true; the input reads as it did. -/
def closeFlatUptoRow : OpenClaim := { program := "ytgnhdbdipfncgaagreat", sum := "54aef207f358120ad6640c239b251b0aaa89aab3031e953c8f67d4fe6dd16c26", func := "cambist/cambistlaw22.CloseFlat", spec := "closeFlat", inPlace := ["math/bits.Add64", "math/bits.Sub64", "slices.overlaps[cambist/api.Member]"], unfollowed := true, recurses := true, named := ["math/bits.divideError", "math/bits.overflowError"], apart := false, narrowed := true }
def CloseFlatUptoSaid : Prop := closeFlatUptoRow.holds Tryz.pinned (OpenSpec.upto closeFlatSpec)

end Rows
end Go.Proofs.YtgnhdbdipfncgaaGreat
