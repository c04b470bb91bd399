/-
  No cell of these rows narrows 'for every input' (looked for: loops, veiled, ifaces, maps, wideKeys, modest, calm, conditions, laid).
  DERIVED. THE GIVEN ROWS OF THIS SEAT. 10 by the template 'for every input the law returns true; each argument reads behind the call as it read before'; 0 by the template 'total and deterministic' (their statements: YtccipdjjkcejgaaGreatTotals.lean).
  GIVEN WITH THE SEED: the statements are not yours to turn. If you find one false, say at which input.
  Laid BY PROGRAM, IN A SANDBOX (cutbox-rows.mjs): the forced cells as the released guide's own fill.sh prints them over the translation 1630965ebc4213be… (all of the seat's roots in one cut). By AI agents, Wed Nov 11 2026. No macro, syntax, notation, axiom, sorry.
-/
import Derived.Test.YtccipdjjkcejgaaGreatChecked
import GoSem.Claim
import GoSem.ClaimJoined
import GoSem.ClaimMapViews
import Derived.JoinedTies
import Derived.KernelRfl
namespace Go.Proofs.YtccipdjjkcejgaaGreat
/- THE CELL 'sum', in the pinned program and in every row, IS THE sha256 OF THE DUMP (.gsa) THAT YtccipdjjkcejgaaGreatProg.lean LOADS. Nothing in Lean hashes anything: it is a label: what it is worth is what the hold of that sum in a sandbox is worth. -/
noncomputable def Tryz.pinned : Pinned := { name := "ytccipdjjkcejgaagreat", sum := "1630965ebc4213be11562aaaef22107b9bdefa3fa8e70b808a85a50de28a9ad1", checked := Tryz.checked }
namespace Rows
def none {H : Type} : Left H := { results := [], args := [] }

/-- 'cambistlaw23.DayExact': WHATEVER THE INPUT: true; the input reads as it did. -/
def dayExactSpec : ChangeSpec := { name := "dayExact", fn := fun _ => fun
  | [d1, d2] => { results := [.lit (.bool true)], args := [d1, d2] }
  | _ => none }
def dayExactRow : OpenClaim := { program := "ytccipdjjkcejgaagreat", sum := "1630965ebc4213be11562aaaef22107b9bdefa3fa8e70b808a85a50de28a9ad1", func := "cambist/cambistlaw23.DayExact", spec := "dayExact", inPlace := ["math/bits.Add64", "slices.overlaps[cambist/api.Call]", "slices.overlaps[cambist/api.Member]"], unfollowed := true, recurses := true, named := ["math/bits.divideError", "math/bits.overflowError"], apart := false }
def DayExactSaid : Prop := dayExactRow.holds Tryz.pinned (OpenSpec.ofChange dayExactSpec)

/-- ITS FALSE NEIGHBOUR: 'it returns false'. Refute it at one input. -/
def dayExactWrong : ChangeSpec := { name := "dayExact", fn := fun _ => fun
  | [d1, d2] => { results := [.lit (.bool false)], args := [d1, d2] }
  | _ => none }
def DayExactWrongFalsely : Prop := dayExactRow.holds Tryz.pinned (OpenSpec.ofChange dayExactWrong)

/-- 'cambistlaw25.EngineSound': WHATEVER THE INPUT: true; the input reads as it did. -/
def engineSoundSpec : ChangeSpec := { name := "engineSound", fn := fun _ => fun
  | [d] => { results := [.lit (.bool true)], args := [d] }
  | _ => none }
def engineSoundRow : OpenClaim := { program := "ytccipdjjkcejgaagreat", sum := "1630965ebc4213be11562aaaef22107b9bdefa3fa8e70b808a85a50de28a9ad1", func := "cambist/cambistlaw25.EngineSound", spec := "engineSound", inPlace := ["slices.overlaps[cambist/api.Member]", "slices.overlaps[cambist/api.Inst]", "slices.overlaps[cambist/api.Asset]", "math/bits.Add64", "slices.overlaps[cambist/api.Call]", "slices.overlaps[cambist/api.Pledge]", "math/bits.Sub64", "slices.overlaps[cambist/api.Seat]"], unfollowed := true, recurses := true, named := ["math/bits.divideError", "math/bits.overflowError"], apart := false }
def EngineSoundSaid : Prop := engineSoundRow.holds Tryz.pinned (OpenSpec.ofChange engineSoundSpec)

/-- ITS FALSE NEIGHBOUR: 'it returns false'. Refute it at one input. -/
def engineSoundWrong : ChangeSpec := { name := "engineSound", fn := fun _ => fun
  | [d] => { results := [.lit (.bool false)], args := [d] }
  | _ => none }
def EngineSoundWrongFalsely : Prop := engineSoundRow.holds Tryz.pinned (OpenSpec.ofChange engineSoundWrong)

/-- 'cambistlaw25.EngineRefuses': WHATEVER THE INPUT: true; the input reads as it did. -/
def engineRefusesSpec : ChangeSpec := { name := "engineRefuses", fn := fun _ => fun
  | [d1, d2] => { results := [.lit (.bool true)], args := [d1, d2] }
  | _ => none }
def engineRefusesRow : OpenClaim := { program := "ytccipdjjkcejgaagreat", sum := "1630965ebc4213be11562aaaef22107b9bdefa3fa8e70b808a85a50de28a9ad1", func := "cambist/cambistlaw25.EngineRefuses", spec := "engineRefuses", inPlace := ["slices.overlaps[cambist/api.Member]", "slices.overlaps[cambist/api.Inst]", "slices.overlaps[cambist/api.Asset]", "math/bits.Add64", "slices.overlaps[cambist/api.Call]", "slices.overlaps[cambist/api.Pledge]", "math/bits.Sub64", "slices.overlaps[cambist/api.Seat]"], unfollowed := true, recurses := true, named := ["math/bits.divideError", "math/bits.overflowError"], apart := false }
def EngineRefusesSaid : Prop := engineRefusesRow.holds Tryz.pinned (OpenSpec.ofChange engineRefusesSpec)

/-- ITS FALSE NEIGHBOUR: 'it returns false'. Refute it at one input. -/
def engineRefusesWrong : ChangeSpec := { name := "engineRefuses", fn := fun _ => fun
  | [d1, d2] => { results := [.lit (.bool false)], args := [d1, d2] }
  | _ => none }
def EngineRefusesWrongFalsely : Prop := engineRefusesRow.holds Tryz.pinned (OpenSpec.ofChange engineRefusesWrong)

/-- 'cambistlaw25.EngineAsks': WHATEVER THE INPUT: true; the input reads as it did. -/
def engineAsksSpec : ChangeSpec := { name := "engineAsks", fn := fun _ => fun
  | [d1, d2, d3, d4, d5, d6] => { results := [.lit (.bool true)], args := [d1, d2, d3, d4, d5, d6] }
  | _ => none }
def engineAsksRow : OpenClaim := { program := "ytccipdjjkcejgaagreat", sum := "1630965ebc4213be11562aaaef22107b9bdefa3fa8e70b808a85a50de28a9ad1", func := "cambist/cambistlaw25.EngineAsks", spec := "engineAsks", inPlace := ["slices.overlaps[cambist/api.Member]", "slices.overlaps[cambist/api.Inst]", "slices.overlaps[cambist/api.Asset]", "math/bits.Add64", "slices.overlaps[cambist/api.Call]", "slices.overlaps[cambist/api.Pledge]", "math/bits.Sub64", "slices.overlaps[cambist/api.Seat]"], unfollowed := true, recurses := true, named := ["math/bits.divideError", "math/bits.overflowError"], apart := false }
def EngineAsksSaid : Prop := engineAsksRow.holds Tryz.pinned (OpenSpec.ofChange engineAsksSpec)

/-- ITS FALSE NEIGHBOUR: 'it returns false'. Refute it at one input. -/
def engineAsksWrong : ChangeSpec := { name := "engineAsks", fn := fun _ => fun
  | [d1, d2, d3, d4, d5, d6] => { results := [.lit (.bool false)], args := [d1, d2, d3, d4, d5, d6] }
  | _ => none }
def EngineAsksWrongFalsely : Prop := engineAsksRow.holds Tryz.pinned (OpenSpec.ofChange engineAsksWrong)

/-- 'cambistlaw25.EngineTwins': WHATEVER THE INPUT: true; the input reads as it did. -/
def engineTwinsSpec : ChangeSpec := { name := "engineTwins", fn := fun _ => fun
  | [d1, d2] => { results := [.lit (.bool true)], args := [d1, d2] }
  | _ => none }
def engineTwinsRow : OpenClaim := { program := "ytccipdjjkcejgaagreat", sum := "1630965ebc4213be11562aaaef22107b9bdefa3fa8e70b808a85a50de28a9ad1", func := "cambist/cambistlaw25.EngineTwins", spec := "engineTwins", inPlace := ["slices.overlaps[cambist/api.Member]", "slices.overlaps[cambist/api.Inst]", "slices.overlaps[cambist/api.Asset]", "math/bits.Add64", "slices.overlaps[cambist/api.Call]", "slices.overlaps[cambist/api.Pledge]", "math/bits.Sub64", "slices.overlaps[cambist/api.Seat]"], unfollowed := true, recurses := true, named := ["math/bits.divideError", "math/bits.overflowError"], apart := false }
def EngineTwinsSaid : Prop := engineTwinsRow.holds Tryz.pinned (OpenSpec.ofChange engineTwinsSpec)

/-- ITS FALSE NEIGHBOUR: 'it returns false'. Refute it at one input. -/
def engineTwinsWrong : ChangeSpec := { name := "engineTwins", fn := fun _ => fun
  | [d1, d2] => { results := [.lit (.bool false)], args := [d1, d2] }
  | _ => none }
def EngineTwinsWrongFalsely : Prop := engineTwinsRow.holds Tryz.pinned (OpenSpec.ofChange engineTwinsWrong)

/-- 'cambistlaw25.EnginePays': WHATEVER THE INPUT: true; the input reads as it did. -/
def enginePaysSpec : ChangeSpec := { name := "enginePays", fn := fun _ => fun
  | [d1, d2, d3, d4, d5, d6] => { results := [.lit (.bool true)], args := [d1, d2, d3, d4, d5, d6] }
  | _ => none }
def enginePaysRow : OpenClaim := { program := "ytccipdjjkcejgaagreat", sum := "1630965ebc4213be11562aaaef22107b9bdefa3fa8e70b808a85a50de28a9ad1", func := "cambist/cambistlaw25.EnginePays", spec := "enginePays", inPlace := ["slices.overlaps[cambist/api.Member]", "slices.overlaps[cambist/api.Inst]", "slices.overlaps[cambist/api.Asset]", "math/bits.Add64", "slices.overlaps[cambist/api.Call]", "slices.overlaps[cambist/api.Pledge]", "math/bits.Sub64", "slices.overlaps[cambist/api.Seat]"], unfollowed := true, recurses := true, named := ["math/bits.divideError", "math/bits.overflowError"], apart := false }
def EnginePaysSaid : Prop := enginePaysRow.holds Tryz.pinned (OpenSpec.ofChange enginePaysSpec)

/-- ITS FALSE NEIGHBOUR: 'it returns false'. Refute it at one input. -/
def enginePaysWrong : ChangeSpec := { name := "enginePays", fn := fun _ => fun
  | [d1, d2, d3, d4, d5, d6] => { results := [.lit (.bool false)], args := [d1, d2, d3, d4, d5, d6] }
  | _ => none }
def EnginePaysWrongFalsely : Prop := enginePaysRow.holds Tryz.pinned (OpenSpec.ofChange enginePaysWrong)

/-- 'cambistlaw25.EngineTrades': WHATEVER THE INPUT: true; the input reads as it did. -/
def engineTradesSpec : ChangeSpec := { name := "engineTrades", fn := fun _ => fun
  | [d1, d2, d3, d4, d5, d6, d7] => { results := [.lit (.bool true)], args := [d1, d2, d3, d4, d5, d6, d7] }
  | _ => none }
def engineTradesRow : OpenClaim := { program := "ytccipdjjkcejgaagreat", sum := "1630965ebc4213be11562aaaef22107b9bdefa3fa8e70b808a85a50de28a9ad1", func := "cambist/cambistlaw25.EngineTrades", spec := "engineTrades", inPlace := ["slices.overlaps[cambist/api.Member]", "slices.overlaps[cambist/api.Inst]", "slices.overlaps[cambist/api.Asset]", "math/bits.Add64", "slices.overlaps[cambist/api.Call]", "slices.overlaps[cambist/api.Pledge]", "math/bits.Sub64", "slices.overlaps[cambist/api.Seat]"], unfollowed := true, recurses := true, named := ["math/bits.divideError", "math/bits.overflowError"], apart := false }
def EngineTradesSaid : Prop := engineTradesRow.holds Tryz.pinned (OpenSpec.ofChange engineTradesSpec)

/-- ITS FALSE NEIGHBOUR: 'it returns false'. Refute it at one input. -/
def engineTradesWrong : ChangeSpec := { name := "engineTrades", fn := fun _ => fun
  | [d1, d2, d3, d4, d5, d6, d7] => { results := [.lit (.bool false)], args := [d1, d2, d3, d4, d5, d6, d7] }
  | _ => none }
def EngineTradesWrongFalsely : Prop := engineTradesRow.holds Tryz.pinned (OpenSpec.ofChange engineTradesWrong)

/-- 'cambistlaw25.EngineClients': WHATEVER THE INPUT: true; the input reads as it did. -/
def engineClientsSpec : ChangeSpec := { name := "engineClients", fn := fun _ => fun
  | [d1, d2] => { results := [.lit (.bool true)], args := [d1, d2] }
  | _ => none }
def engineClientsRow : OpenClaim := { program := "ytccipdjjkcejgaagreat", sum := "1630965ebc4213be11562aaaef22107b9bdefa3fa8e70b808a85a50de28a9ad1", func := "cambist/cambistlaw25.EngineClients", spec := "engineClients", inPlace := ["slices.overlaps[cambist/api.Member]", "slices.overlaps[cambist/api.Inst]", "slices.overlaps[cambist/api.Asset]", "math/bits.Add64", "slices.overlaps[cambist/api.Call]", "slices.overlaps[cambist/api.Pledge]", "math/bits.Sub64", "slices.overlaps[cambist/api.Seat]"], unfollowed := true, recurses := true, named := ["math/bits.divideError", "math/bits.overflowError"], apart := false }
def EngineClientsSaid : Prop := engineClientsRow.holds Tryz.pinned (OpenSpec.ofChange engineClientsSpec)

/-- ITS FALSE NEIGHBOUR: 'it returns false'. Refute it at one input. -/
def engineClientsWrong : ChangeSpec := { name := "engineClients", fn := fun _ => fun
  | [d1, d2] => { results := [.lit (.bool false)], args := [d1, d2] }
  | _ => none }
def EngineClientsWrongFalsely : Prop := engineClientsRow.holds Tryz.pinned (OpenSpec.ofChange engineClientsWrong)

/-- 'cambistlaw25.EngineOnce': WHATEVER THE INPUT: true; the input reads as it did. -/
def engineOnceSpec : ChangeSpec := { name := "engineOnce", fn := fun _ => fun
  | [d1, d2, d3] => { results := [.lit (.bool true)], args := [d1, d2, d3] }
  | _ => none }
def engineOnceRow : OpenClaim := { program := "ytccipdjjkcejgaagreat", sum := "1630965ebc4213be11562aaaef22107b9bdefa3fa8e70b808a85a50de28a9ad1", func := "cambist/cambistlaw25.EngineOnce", spec := "engineOnce", inPlace := ["slices.overlaps[cambist/api.Member]", "slices.overlaps[cambist/api.Inst]", "slices.overlaps[cambist/api.Asset]", "math/bits.Add64", "slices.overlaps[cambist/api.Call]", "slices.overlaps[cambist/api.Pledge]", "math/bits.Sub64", "slices.overlaps[cambist/api.Seat]"], unfollowed := true, recurses := true, named := ["math/bits.divideError", "math/bits.overflowError"], apart := false }
def EngineOnceSaid : Prop := engineOnceRow.holds Tryz.pinned (OpenSpec.ofChange engineOnceSpec)

/-- ITS FALSE NEIGHBOUR: 'it returns false'. Refute it at one input. -/
def engineOnceWrong : ChangeSpec := { name := "engineOnce", fn := fun _ => fun
  | [d1, d2, d3] => { results := [.lit (.bool false)], args := [d1, d2, d3] }
  | _ => none }
def EngineOnceWrongFalsely : Prop := engineOnceRow.holds Tryz.pinned (OpenSpec.ofChange engineOnceWrong)

/-- 'cambistlaw25.EngineForms': WHATEVER THE INPUT: true; the input reads as it did. -/
def engineFormsSpec : ChangeSpec := { name := "engineForms", fn := fun _ => fun
  | [d1, d2, d3, d4] => { results := [.lit (.bool true)], args := [d1, d2, d3, d4] }
  | _ => none }
def engineFormsRow : OpenClaim := { program := "ytccipdjjkcejgaagreat", sum := "1630965ebc4213be11562aaaef22107b9bdefa3fa8e70b808a85a50de28a9ad1", func := "cambist/cambistlaw25.EngineForms", spec := "engineForms", inPlace := ["slices.overlaps[cambist/api.Member]", "slices.overlaps[cambist/api.Inst]", "slices.overlaps[cambist/api.Asset]", "math/bits.Add64", "slices.overlaps[cambist/api.Call]", "slices.overlaps[cambist/api.Pledge]", "math/bits.Sub64", "slices.overlaps[cambist/api.Seat]"], unfollowed := true, recurses := true, named := ["math/bits.divideError", "math/bits.overflowError"], apart := false }
def EngineFormsSaid : Prop := engineFormsRow.holds Tryz.pinned (OpenSpec.ofChange engineFormsSpec)

/-- ITS FALSE NEIGHBOUR: 'it returns false'. Refute it at one input. -/
def engineFormsWrong : ChangeSpec := { name := "engineForms", fn := fun _ => fun
  | [d1, d2, d3, d4] => { results := [.lit (.bool false)], args := [d1, d2, d3, d4] }
  | _ => none }
def EngineFormsWrongFalsely : Prop := engineFormsRow.holds Tryz.pinned (OpenSpec.ofChange engineFormsWrong)

/- THE SECOND FORM. 'bulk': how many values and letters a reading holds, each counted each time it is reached (what is shared counts as often as it is met; a slice's spare places count too). A statement '..UptoSaid' is the law's where the arguments, and the package variables that the reading takes, are together of bulk at most 1048576: NARROWER than '..Said'. Prove '..Said' where nothing that the law and all that it calls make is longer than what came in: it says more and counts as full. Else prove '..UptoSaid'. A law counts once. -/
mutual
def uptoBulk {H : Type} : DataW H → Nat
  | .lit (.string bytes) => bytes.length + 1
  | .lit _ => 1
  | .nil => 1
  | .ptr d => uptoBulk d + 1
  | .slice elems spare => uptoBulkAll elems + uptoBulkAll spare + 1
  | .agg parts => uptoBulkAll parts + 1
  | .iface _ d => uptoBulk d + 1
  | .map entries => uptoBulkEntries entries + 1
  | .held _ => 1
def uptoBulkAll {H : Type} : List (DataW H) → Nat
  | [] => 0
  | d :: r => uptoBulk d + uptoBulkAll r
def uptoBulkEntries {H : Type} : List (Lit × DataW H) → Nat
  | [] => 0
  | x :: r => uptoBulkEntry x + uptoBulkEntries r
def uptoBulkEntry {H : Type} : Lit × DataW H → Nat
  | (.string bytes, d) => bytes.length + uptoBulk d + 1
  | (_, d) => uptoBulk d + 1
 end
def uptoSmall : (H : Type) → List (DataW H) → Bool := fun _ ds => decide (uptoBulkAll ds ≤ 1048576)
def OpenSpec.upto (s : _root_.Go.ChangeSpec) : _root_.Go.OpenSpec := { _root_.Go.OpenSpec.ofChange s with cond := some uptoSmall }

/-- 'cambistlaw23.DayExact', WHERE WHAT IT READS IS OF BULK AT MOST 1048576: true; the input reads as it did. -/
def dayExactUptoRow : OpenClaim := { program := "ytccipdjjkcejgaagreat", sum := "1630965ebc4213be11562aaaef22107b9bdefa3fa8e70b808a85a50de28a9ad1", func := "cambist/cambistlaw23.DayExact", spec := "dayExact", inPlace := ["math/bits.Add64", "slices.overlaps[cambist/api.Call]", "slices.overlaps[cambist/api.Member]"], unfollowed := true, recurses := true, named := ["math/bits.divideError", "math/bits.overflowError"], apart := false, narrowed := true }
def DayExactUptoSaid : Prop := dayExactUptoRow.holds Tryz.pinned (OpenSpec.upto dayExactSpec)

/-- 'cambistlaw25.EngineSound', WHERE WHAT IT READS IS OF BULK AT MOST 1048576: true; the input reads as it did. -/
def engineSoundUptoRow : OpenClaim := { program := "ytccipdjjkcejgaagreat", sum := "1630965ebc4213be11562aaaef22107b9bdefa3fa8e70b808a85a50de28a9ad1", func := "cambist/cambistlaw25.EngineSound", spec := "engineSound", inPlace := ["slices.overlaps[cambist/api.Member]", "slices.overlaps[cambist/api.Inst]", "slices.overlaps[cambist/api.Asset]", "math/bits.Add64", "slices.overlaps[cambist/api.Call]", "slices.overlaps[cambist/api.Pledge]", "math/bits.Sub64", "slices.overlaps[cambist/api.Seat]"], unfollowed := true, recurses := true, named := ["math/bits.divideError", "math/bits.overflowError"], apart := false, narrowed := true }
def EngineSoundUptoSaid : Prop := engineSoundUptoRow.holds Tryz.pinned (OpenSpec.upto engineSoundSpec)

/-- 'cambistlaw25.EngineRefuses', WHERE WHAT IT READS IS OF BULK AT MOST 1048576: true; the input reads as it did. -/
def engineRefusesUptoRow : OpenClaim := { program := "ytccipdjjkcejgaagreat", sum := "1630965ebc4213be11562aaaef22107b9bdefa3fa8e70b808a85a50de28a9ad1", func := "cambist/cambistlaw25.EngineRefuses", spec := "engineRefuses", inPlace := ["slices.overlaps[cambist/api.Member]", "slices.overlaps[cambist/api.Inst]", "slices.overlaps[cambist/api.Asset]", "math/bits.Add64", "slices.overlaps[cambist/api.Call]", "slices.overlaps[cambist/api.Pledge]", "math/bits.Sub64", "slices.overlaps[cambist/api.Seat]"], unfollowed := true, recurses := true, named := ["math/bits.divideError", "math/bits.overflowError"], apart := false, narrowed := true }
def EngineRefusesUptoSaid : Prop := engineRefusesUptoRow.holds Tryz.pinned (OpenSpec.upto engineRefusesSpec)

/-- 'cambistlaw25.EngineAsks', WHERE WHAT IT READS IS OF BULK AT MOST 1048576: true; the input reads as it did. -/
def engineAsksUptoRow : OpenClaim := { program := "ytccipdjjkcejgaagreat", sum := "1630965ebc4213be11562aaaef22107b9bdefa3fa8e70b808a85a50de28a9ad1", func := "cambist/cambistlaw25.EngineAsks", spec := "engineAsks", inPlace := ["slices.overlaps[cambist/api.Member]", "slices.overlaps[cambist/api.Inst]", "slices.overlaps[cambist/api.Asset]", "math/bits.Add64", "slices.overlaps[cambist/api.Call]", "slices.overlaps[cambist/api.Pledge]", "math/bits.Sub64", "slices.overlaps[cambist/api.Seat]"], unfollowed := true, recurses := true, named := ["math/bits.divideError", "math/bits.overflowError"], apart := false, narrowed := true }
def EngineAsksUptoSaid : Prop := engineAsksUptoRow.holds Tryz.pinned (OpenSpec.upto engineAsksSpec)

/-- 'cambistlaw25.EngineTwins', WHERE WHAT IT READS IS OF BULK AT MOST 1048576: true; the input reads as it did. -/
def engineTwinsUptoRow : OpenClaim := { program := "ytccipdjjkcejgaagreat", sum := "1630965ebc4213be11562aaaef22107b9bdefa3fa8e70b808a85a50de28a9ad1", func := "cambist/cambistlaw25.EngineTwins", spec := "engineTwins", inPlace := ["slices.overlaps[cambist/api.Member]", "slices.overlaps[cambist/api.Inst]", "slices.overlaps[cambist/api.Asset]", "math/bits.Add64", "slices.overlaps[cambist/api.Call]", "slices.overlaps[cambist/api.Pledge]", "math/bits.Sub64", "slices.overlaps[cambist/api.Seat]"], unfollowed := true, recurses := true, named := ["math/bits.divideError", "math/bits.overflowError"], apart := false, narrowed := true }
def EngineTwinsUptoSaid : Prop := engineTwinsUptoRow.holds Tryz.pinned (OpenSpec.upto engineTwinsSpec)

/-- 'cambistlaw25.EnginePays', WHERE WHAT IT READS IS OF BULK AT MOST 1048576: true; the input reads as it did. -/
def enginePaysUptoRow : OpenClaim := { program := "ytccipdjjkcejgaagreat", sum := "1630965ebc4213be11562aaaef22107b9bdefa3fa8e70b808a85a50de28a9ad1", func := "cambist/cambistlaw25.EnginePays", spec := "enginePays", inPlace := ["slices.overlaps[cambist/api.Member]", "slices.overlaps[cambist/api.Inst]", "slices.overlaps[cambist/api.Asset]", "math/bits.Add64", "slices.overlaps[cambist/api.Call]", "slices.overlaps[cambist/api.Pledge]", "math/bits.Sub64", "slices.overlaps[cambist/api.Seat]"], unfollowed := true, recurses := true, named := ["math/bits.divideError", "math/bits.overflowError"], apart := false, narrowed := true }
def EnginePaysUptoSaid : Prop := enginePaysUptoRow.holds Tryz.pinned (OpenSpec.upto enginePaysSpec)

/-- 'cambistlaw25.EngineTrades', WHERE WHAT IT READS IS OF BULK AT MOST 1048576: true; the input reads as it did. -/
def engineTradesUptoRow : OpenClaim := { program := "ytccipdjjkcejgaagreat", sum := "1630965ebc4213be11562aaaef22107b9bdefa3fa8e70b808a85a50de28a9ad1", func := "cambist/cambistlaw25.EngineTrades", spec := "engineTrades", inPlace := ["slices.overlaps[cambist/api.Member]", "slices.overlaps[cambist/api.Inst]", "slices.overlaps[cambist/api.Asset]", "math/bits.Add64", "slices.overlaps[cambist/api.Call]", "slices.overlaps[cambist/api.Pledge]", "math/bits.Sub64", "slices.overlaps[cambist/api.Seat]"], unfollowed := true, recurses := true, named := ["math/bits.divideError", "math/bits.overflowError"], apart := false, narrowed := true }
def EngineTradesUptoSaid : Prop := engineTradesUptoRow.holds Tryz.pinned (OpenSpec.upto engineTradesSpec)

/-- 'cambistlaw25.EngineClients', WHERE WHAT IT READS IS OF BULK AT MOST 1048576: true; the input reads as it did. -/
def engineClientsUptoRow : OpenClaim := { program := "ytccipdjjkcejgaagreat", sum := "1630965ebc4213be11562aaaef22107b9bdefa3fa8e70b808a85a50de28a9ad1", func := "cambist/cambistlaw25.EngineClients", spec := "engineClients", inPlace := ["slices.overlaps[cambist/api.Member]", "slices.overlaps[cambist/api.Inst]", "slices.overlaps[cambist/api.Asset]", "math/bits.Add64", "slices.overlaps[cambist/api.Call]", "slices.overlaps[cambist/api.Pledge]", "math/bits.Sub64", "slices.overlaps[cambist/api.Seat]"], unfollowed := true, recurses := true, named := ["math/bits.divideError", "math/bits.overflowError"], apart := false, narrowed := true }
def EngineClientsUptoSaid : Prop := engineClientsUptoRow.holds Tryz.pinned (OpenSpec.upto engineClientsSpec)

/-- 'cambistlaw25.EngineOnce', WHERE WHAT IT READS IS OF BULK AT MOST 1048576: true; the input reads as it did. -/
def engineOnceUptoRow : OpenClaim := { program := "ytccipdjjkcejgaagreat", sum := "1630965ebc4213be11562aaaef22107b9bdefa3fa8e70b808a85a50de28a9ad1", func := "cambist/cambistlaw25.EngineOnce", spec := "engineOnce", inPlace := ["slices.overlaps[cambist/api.Member]", "slices.overlaps[cambist/api.Inst]", "slices.overlaps[cambist/api.Asset]", "math/bits.Add64", "slices.overlaps[cambist/api.Call]", "slices.overlaps[cambist/api.Pledge]", "math/bits.Sub64", "slices.overlaps[cambist/api.Seat]"], unfollowed := true, recurses := true, named := ["math/bits.divideError", "math/bits.overflowError"], apart := false, narrowed := true }
def EngineOnceUptoSaid : Prop := engineOnceUptoRow.holds Tryz.pinned (OpenSpec.upto engineOnceSpec)

/-- 'cambistlaw25.EngineForms', WHERE WHAT IT READS IS OF BULK AT MOST 1048576: true; the input reads as it did. -/
def engineFormsUptoRow : OpenClaim := { program := "ytccipdjjkcejgaagreat", sum := "1630965ebc4213be11562aaaef22107b9bdefa3fa8e70b808a85a50de28a9ad1", func := "cambist/cambistlaw25.EngineForms", spec := "engineForms", inPlace := ["slices.overlaps[cambist/api.Member]", "slices.overlaps[cambist/api.Inst]", "slices.overlaps[cambist/api.Asset]", "math/bits.Add64", "slices.overlaps[cambist/api.Call]", "slices.overlaps[cambist/api.Pledge]", "math/bits.Sub64", "slices.overlaps[cambist/api.Seat]"], unfollowed := true, recurses := true, named := ["math/bits.divideError", "math/bits.overflowError"], apart := false, narrowed := true }
def EngineFormsUptoSaid : Prop := engineFormsUptoRow.holds Tryz.pinned (OpenSpec.upto engineFormsSpec)

end Rows
end Go.Proofs.YtccipdjjkcejgaaGreat
