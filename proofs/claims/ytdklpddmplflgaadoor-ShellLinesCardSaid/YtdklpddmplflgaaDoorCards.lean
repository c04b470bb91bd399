/-
  DERIVED. GIVEN WITH THE SEED: THE CARDS: each row of YtdklpddmplflgaaDoorRows.lean that lists a variable, with what it lists TIED to the program's text (the seventh form; the later family's looks); each row that meets fmt, with fmt's text TOLD by the authors' own Lean function (tested against real Go, not proved from fmt's source: count such statements apart). THE CARD IS WHAT COUNTS. Prove the row's statement (the work); the ties are given (YtdklpddmplflgaaDoorTie.lean); close each card by the builder's one call (the guide's Derived/Test/ToyasCard.lean, 'card_holds'). Laid BY PROGRAM, IN A SANDBOX (cutbox-door.mjs). By AI agents, Wed Nov 11 2026. No macro, syntax, notation, axiom, sorry.
-/
import Derived.Test.YtdklpddmplflgaaDoorRows
import GoSem.ClaimSeven
namespace Go.Proofs.YtdklpddmplflgaaDoor
namespace Rows

/-- THE TIED CARD OF 'cambistlaw28.ShellReads'. -/
def shellReadsCard : Claim7 := { stood := { row := shellReadsRow, standIns := [], harness := (true, "b2fa823ae9c2436f025745558d28491177754fbb4ea11bf06861b6f4dfdd5e7d"), looks := true }, kinds := [], alts := [], laidByText := true, laidKinds := [.data, .data, .data, .data, .sentinel, .sentinel, .pinned], laidTests := true, laidLooks := .later }
def ShellReadsCardSaid : Prop := Claim7.holds Tryd.pinned (.plain (OpenSpec.ofChange shellReadsSpec)) shellReadsCard

/-- THE TIED CARD OF 'cambistlaw28.ShellNumbers'. -/
def shellNumbersCard : Claim7 := { stood := { row := shellNumbersRow, standIns := [], harness := (true, "b2fa823ae9c2436f025745558d28491177754fbb4ea11bf06861b6f4dfdd5e7d"), looks := true }, kinds := [], alts := [], laidByText := true, laidKinds := [.data, .data, .data, .data, .sentinel, .sentinel, .pinned], laidTests := true, laidLooks := .later }
def ShellNumbersCardSaid : Prop := Claim7.holds Tryd.pinned (.plain (OpenSpec.ofChange shellNumbersSpec)) shellNumbersCard

/-- THE TIED CARD OF 'cambistlaw28.ShellBack'. -/
def shellBackCard : Claim7 := { stood := { row := shellBackRow, standIns := [], harness := (true, "b2fa823ae9c2436f025745558d28491177754fbb4ea11bf06861b6f4dfdd5e7d"), looks := true }, kinds := [], alts := [], laidByText := true, laidKinds := [.data, .data, .data, .data, .sentinel, .sentinel, .pinned], laidTests := true, laidLooks := .later }
def ShellBackCardSaid : Prop := Claim7.holds Tryd.pinned (.plain (OpenSpec.ofChange shellBackSpec)) shellBackCard

/-- THE TIED CARD OF 'cambistlaw28.ShellTells'. -/
def shellTellsCard : Claim7 := { stood := { row := shellTellsRow, standIns := [], harness := (true, "b2fa823ae9c2436f025745558d28491177754fbb4ea11bf06861b6f4dfdd5e7d"), looks := true }, kinds := [], alts := [], laidByText := true, laidKinds := [.data, .data, .data, .data, .sentinel, .sentinel, .pinned], laidTests := true, laidLooks := .later }
def ShellTellsCardSaid : Prop := Claim7.holds Tryd.pinned (.plain (OpenSpec.ofChange shellTellsSpec)) shellTellsCard

/-- THE TIED CARD OF 'cambistlaw28.ShellLines'. -/
def shellLinesCard : Claim7 := { stood := { row := shellLinesRow, standIns := [], harness := (true, "b2fa823ae9c2436f025745558d28491177754fbb4ea11bf06861b6f4dfdd5e7d"), looks := true }, kinds := [], alts := [], laidByText := true, laidKinds := [.data, .data, .data, .data, .sentinel, .sentinel, .pinned], laidTests := true, laidLooks := .later }
def ShellLinesCardSaid : Prop := Claim7.holds Tryd.pinned (.plain (OpenSpec.ofChange shellLinesSpec)) shellLinesCard

/-- THE SECOND FORM's CARD OF 'cambistlaw28.ShellReads'. -/
def shellReadsUptoCard : Claim7 := { stood := { row := shellReadsUptoRow, standIns := [], harness := (true, "b2fa823ae9c2436f025745558d28491177754fbb4ea11bf06861b6f4dfdd5e7d"), looks := true }, kinds := [], alts := [], laidByText := true, laidKinds := [.data, .data, .data, .data, .sentinel, .sentinel, .pinned], laidTests := true, laidLooks := .later }
def ShellReadsUptoCardSaid : Prop := Claim7.holds Tryd.pinned (.plain (OpenSpec.upto shellReadsSpec)) shellReadsUptoCard

/-- THE SECOND FORM's CARD OF 'cambistlaw28.ShellNumbers'. -/
def shellNumbersUptoCard : Claim7 := { stood := { row := shellNumbersUptoRow, standIns := [], harness := (true, "b2fa823ae9c2436f025745558d28491177754fbb4ea11bf06861b6f4dfdd5e7d"), looks := true }, kinds := [], alts := [], laidByText := true, laidKinds := [.data, .data, .data, .data, .sentinel, .sentinel, .pinned], laidTests := true, laidLooks := .later }
def ShellNumbersUptoCardSaid : Prop := Claim7.holds Tryd.pinned (.plain (OpenSpec.upto shellNumbersSpec)) shellNumbersUptoCard

/-- THE SECOND FORM's CARD OF 'cambistlaw28.ShellBack'. -/
def shellBackUptoCard : Claim7 := { stood := { row := shellBackUptoRow, standIns := [], harness := (true, "b2fa823ae9c2436f025745558d28491177754fbb4ea11bf06861b6f4dfdd5e7d"), looks := true }, kinds := [], alts := [], laidByText := true, laidKinds := [.data, .data, .data, .data, .sentinel, .sentinel, .pinned], laidTests := true, laidLooks := .later }
def ShellBackUptoCardSaid : Prop := Claim7.holds Tryd.pinned (.plain (OpenSpec.upto shellBackSpec)) shellBackUptoCard

/-- THE SECOND FORM's CARD OF 'cambistlaw28.ShellTells'. -/
def shellTellsUptoCard : Claim7 := { stood := { row := shellTellsUptoRow, standIns := [], harness := (true, "b2fa823ae9c2436f025745558d28491177754fbb4ea11bf06861b6f4dfdd5e7d"), looks := true }, kinds := [], alts := [], laidByText := true, laidKinds := [.data, .data, .data, .data, .sentinel, .sentinel, .pinned], laidTests := true, laidLooks := .later }
def ShellTellsUptoCardSaid : Prop := Claim7.holds Tryd.pinned (.plain (OpenSpec.upto shellTellsSpec)) shellTellsUptoCard

/-- THE SECOND FORM's CARD OF 'cambistlaw28.ShellLines'. -/
def shellLinesUptoCard : Claim7 := { stood := { row := shellLinesUptoRow, standIns := [], harness := (true, "b2fa823ae9c2436f025745558d28491177754fbb4ea11bf06861b6f4dfdd5e7d"), looks := true }, kinds := [], alts := [], laidByText := true, laidKinds := [.data, .data, .data, .data, .sentinel, .sentinel, .pinned], laidTests := true, laidLooks := .later }
def ShellLinesUptoCardSaid : Prop := Claim7.holds Tryd.pinned (.plain (OpenSpec.upto shellLinesSpec)) shellLinesUptoCard
end Rows
end Go.Proofs.YtdklpddmplflgaaDoor
