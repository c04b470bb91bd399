/-
  No cell of these rows narrows 'for every input' (looked for: loops, veiled, ifaces, maps, wideKeys, modest, calm, conditions, laid).
  DERIVED. THE GIVEN ROWS OF THIS SEAT. 4 by the template 'for every input the law returns true; each argument reads behind the call as it read before'; 0 by the template 'total and deterministic' (their statements: YtbllopdcbkeadaaTotals.lean).
  GIVEN WITH THE SEED: the statements are not yours to turn. If you find one false, say at which input.
  Laid BY PROGRAM, IN A SANDBOX (cutbox-rows.mjs): the forced cells as the released guide's own fill.sh prints them over the translation e43cceb853822040… (all of the seat's roots in one cut). By AI agents, Wed Nov 11 2026. No macro, syntax, notation, axiom, sorry.
-/
import Derived.Test.YtbllopdcbkeadaaChecked
import GoSem.Claim
import GoSem.ClaimJoined
import GoSem.ClaimMapViews
import Derived.JoinedTies
import Derived.KernelRfl
namespace Go.Proofs.Ytbllopdcbkeadaa
/- THE CELL 'sum', in the pinned program and in every row, IS THE sha256 OF THE DUMP (.gsa) THAT YtbllopdcbkeadaaProg.lean LOADS. Nothing in Lean hashes anything: it is a label: what it is worth is what the hold of that sum in a sandbox is worth. -/
noncomputable def Try.pinned : Pinned := { name := "ytbllopdcbkeadaa", sum := "e43cceb853822040ce505b0ca75488418237386996d7b26a4be49f54c2e64bcd", checked := Try.checked }
namespace Rows
def none {H : Type} : Left H := { results := [], args := [] }

/-- 'cambistlaw16.CoverChanges': WHATEVER THE INPUT: true; the input reads as it did. -/
def coverChangesSpec : ChangeSpec := { name := "coverChanges", fn := fun _ => fun
  | [d1, d2, d3, d4, d5] => { results := [.lit (.bool true)], args := [d1, d2, d3, d4, d5] }
  | _ => none }
def coverChangesRow : OpenClaim := { program := "ytbllopdcbkeadaa", sum := "e43cceb853822040ce505b0ca75488418237386996d7b26a4be49f54c2e64bcd", func := "cambist/cambistlaw16.CoverChanges", spec := "coverChanges", inPlace := ["slices.overlaps[cambist/api.Pledge]"], unfollowed := true, recurses := true, named := ["math/bits.divideError", "math/bits.overflowError"], apart := false }
def CoverChangesSaid : Prop := coverChangesRow.holds Try.pinned (OpenSpec.ofChange coverChangesSpec)

/-- ITS FALSE NEIGHBOUR: 'it returns false'. Refute it at one input. -/
def coverChangesWrong : ChangeSpec := { name := "coverChanges", fn := fun _ => fun
  | [d1, d2, d3, d4, d5] => { results := [.lit (.bool false)], args := [d1, d2, d3, d4, d5] }
  | _ => none }
def CoverChangesWrongFalsely : Prop := coverChangesRow.holds Try.pinned (OpenSpec.ofChange coverChangesWrong)

/-- 'cambistlaw16.CoverExact': WHATEVER THE INPUT: true; the input reads as it did. -/
def coverExactSpec : ChangeSpec := { name := "coverExact", fn := fun _ => fun
  | [d1, d2, d3, d4, d5, d6] => { results := [.lit (.bool true)], args := [d1, d2, d3, d4, d5, d6] }
  | _ => none }
def coverExactRow : OpenClaim := { program := "ytbllopdcbkeadaa", sum := "e43cceb853822040ce505b0ca75488418237386996d7b26a4be49f54c2e64bcd", func := "cambist/cambistlaw16.CoverExact", spec := "coverExact", inPlace := ["math/bits.Add64", "slices.overlaps[cambist/api.Pledge]"], unfollowed := true, recurses := true, named := ["math/bits.divideError", "math/bits.overflowError"], apart := false }
def CoverExactSaid : Prop := coverExactRow.holds Try.pinned (OpenSpec.ofChange coverExactSpec)

/-- ITS FALSE NEIGHBOUR: 'it returns false'. Refute it at one input. -/
def coverExactWrong : ChangeSpec := { name := "coverExact", fn := fun _ => fun
  | [d1, d2, d3, d4, d5, d6] => { results := [.lit (.bool false)], args := [d1, d2, d3, d4, d5, d6] }
  | _ => none }
def CoverExactWrongFalsely : Prop := coverExactRow.holds Try.pinned (OpenSpec.ofChange coverExactWrong)

/-- 'cambistlaw16.CoverShorts': WHATEVER THE INPUT: true; the input reads as it did. -/
def coverShortsSpec : ChangeSpec := { name := "coverShorts", fn := fun _ => fun
  | [d1, d2, d3] => { results := [.lit (.bool true)], args := [d1, d2, d3] }
  | _ => none }
def coverShortsRow : OpenClaim := { program := "ytbllopdcbkeadaa", sum := "e43cceb853822040ce505b0ca75488418237386996d7b26a4be49f54c2e64bcd", func := "cambist/cambistlaw16.CoverShorts", spec := "coverShorts", inPlace := ["math/bits.Add64"], unfollowed := true, recurses := true, named := ["math/bits.divideError", "math/bits.overflowError"], apart := false }
def CoverShortsSaid : Prop := coverShortsRow.holds Try.pinned (OpenSpec.ofChange coverShortsSpec)

/-- ITS FALSE NEIGHBOUR: 'it returns false'. Refute it at one input. -/
def coverShortsWrong : ChangeSpec := { name := "coverShorts", fn := fun _ => fun
  | [d1, d2, d3] => { results := [.lit (.bool false)], args := [d1, d2, d3] }
  | _ => none }
def CoverShortsWrongFalsely : Prop := coverShortsRow.holds Try.pinned (OpenSpec.ofChange coverShortsWrong)

/-- 'cambistlaw16.CoverMore': WHATEVER THE INPUT: true; the input reads as it did. -/
def coverMoreSpec : ChangeSpec := { name := "coverMore", fn := fun _ => fun
  | [d1, d2, d3, d4] => { results := [.lit (.bool true)], args := [d1, d2, d3, d4] }
  | _ => none }
def coverMoreRow : OpenClaim := { program := "ytbllopdcbkeadaa", sum := "e43cceb853822040ce505b0ca75488418237386996d7b26a4be49f54c2e64bcd", func := "cambist/cambistlaw16.CoverMore", spec := "coverMore", inPlace := ["slices.overlaps[cambist/api.Pledge]", "math/bits.Add64"], unfollowed := true, recurses := true, named := ["math/bits.divideError", "math/bits.overflowError"], apart := false }
def CoverMoreSaid : Prop := coverMoreRow.holds Try.pinned (OpenSpec.ofChange coverMoreSpec)

/-- ITS FALSE NEIGHBOUR: 'it returns false'. Refute it at one input. -/
def coverMoreWrong : ChangeSpec := { name := "coverMore", fn := fun _ => fun
  | [d1, d2, d3, d4] => { results := [.lit (.bool false)], args := [d1, d2, d3, d4] }
  | _ => none }
def CoverMoreWrongFalsely : Prop := coverMoreRow.holds Try.pinned (OpenSpec.ofChange coverMoreWrong)

/- THE SECOND FORM. 'bulk': how many values and letters a reading holds, each counted each time it is reached (what is shared counts as often as it is met; a slice's spare places count too). A statement '..UptoSaid' is the law's where the arguments, and the package variables that the reading takes, are together of bulk at most 1048576: NARROWER than '..Said'. Prove '..Said' where nothing that the law and all that it calls make is longer than what came in: it says more and counts as full. Else prove '..UptoSaid'. A law counts once. -/
mutual
def uptoBulk {H : Type} : DataW H → Nat
  | .lit (.string bytes) => bytes.length + 1
  | .lit _ => 1
  | .nil => 1
  | .ptr d => uptoBulk d + 1
  | .slice elems spare => uptoBulkAll elems + uptoBulkAll spare + 1
  | .agg parts => uptoBulkAll parts + 1
  | .iface _ d => uptoBulk d + 1
  | .map entries => uptoBulkEntries entries + 1
  | .held _ => 1
def uptoBulkAll {H : Type} : List (DataW H) → Nat
  | [] => 0
  | d :: r => uptoBulk d + uptoBulkAll r
def uptoBulkEntries {H : Type} : List (Lit × DataW H) → Nat
  | [] => 0
  | x :: r => uptoBulkEntry x + uptoBulkEntries r
def uptoBulkEntry {H : Type} : Lit × DataW H → Nat
  | (.string bytes, d) => bytes.length + uptoBulk d + 1
  | (_, d) => uptoBulk d + 1
 end
def uptoSmall : (H : Type) → List (DataW H) → Bool := fun _ ds => decide (uptoBulkAll ds ≤ 1048576)
def OpenSpec.upto (s : _root_.Go.ChangeSpec) : _root_.Go.OpenSpec := { _root_.Go.OpenSpec.ofChange s with cond := some uptoSmall }

/-- 'cambistlaw16.CoverChanges', WHERE WHAT IT READS IS OF BULK AT MOST 1048576: true; the input reads as it did. -/
def coverChangesUptoRow : OpenClaim := { program := "ytbllopdcbkeadaa", sum := "e43cceb853822040ce505b0ca75488418237386996d7b26a4be49f54c2e64bcd", func := "cambist/cambistlaw16.CoverChanges", spec := "coverChanges", inPlace := ["slices.overlaps[cambist/api.Pledge]"], unfollowed := true, recurses := true, named := ["math/bits.divideError", "math/bits.overflowError"], apart := false, narrowed := true }
def CoverChangesUptoSaid : Prop := coverChangesUptoRow.holds Try.pinned (OpenSpec.upto coverChangesSpec)

/-- 'cambistlaw16.CoverExact', WHERE WHAT IT READS IS OF BULK AT MOST 1048576: true; the input reads as it did. -/
def coverExactUptoRow : OpenClaim := { program := "ytbllopdcbkeadaa", sum := "e43cceb853822040ce505b0ca75488418237386996d7b26a4be49f54c2e64bcd", func := "cambist/cambistlaw16.CoverExact", spec := "coverExact", inPlace := ["math/bits.Add64", "slices.overlaps[cambist/api.Pledge]"], unfollowed := true, recurses := true, named := ["math/bits.divideError", "math/bits.overflowError"], apart := false, narrowed := true }
def CoverExactUptoSaid : Prop := coverExactUptoRow.holds Try.pinned (OpenSpec.upto coverExactSpec)

/-- 'cambistlaw16.CoverShorts', WHERE WHAT IT READS IS OF BULK AT MOST 1048576: true; the input reads as it did. -/
def coverShortsUptoRow : OpenClaim := { program := "ytbllopdcbkeadaa", sum := "e43cceb853822040ce505b0ca75488418237386996d7b26a4be49f54c2e64bcd", func := "cambist/cambistlaw16.CoverShorts", spec := "coverShorts", inPlace := ["math/bits.Add64"], unfollowed := true, recurses := true, named := ["math/bits.divideError", "math/bits.overflowError"], apart := false, narrowed := true }
def CoverShortsUptoSaid : Prop := coverShortsUptoRow.holds Try.pinned (OpenSpec.upto coverShortsSpec)

/-- 'cambistlaw16.CoverMore', WHERE WHAT IT READS IS OF BULK AT MOST 1048576: true; the input reads as it did. -/
def coverMoreUptoRow : OpenClaim := { program := "ytbllopdcbkeadaa", sum := "e43cceb853822040ce505b0ca75488418237386996d7b26a4be49f54c2e64bcd", func := "cambist/cambistlaw16.CoverMore", spec := "coverMore", inPlace := ["slices.overlaps[cambist/api.Pledge]", "math/bits.Add64"], unfollowed := true, recurses := true, named := ["math/bits.divideError", "math/bits.overflowError"], apart := false, narrowed := true }
def CoverMoreUptoSaid : Prop := coverMoreUptoRow.holds Try.pinned (OpenSpec.upto coverMoreSpec)

end Rows
end Go.Proofs.Ytbllopdcbkeadaa
