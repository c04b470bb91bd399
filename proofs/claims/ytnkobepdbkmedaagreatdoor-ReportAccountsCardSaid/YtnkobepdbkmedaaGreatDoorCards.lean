/-
  DERIVED. GIVEN WITH THE SEED: THE CARDS: each row of YtnkobepdbkmedaaGreatDoorRows.lean that lists a variable, with what it lists TIED to the program's text (the seventh form; the later family's looks); each row that meets fmt, with fmt's text TOLD by the authors' own Lean function (tested against real Go, not proved from fmt's source: count such statements apart). THE CARD IS WHAT COUNTS. Prove the row's statement (the work); the ties are given (YtnkobepdbkmedaaGreatDoorTie.lean); close each card by the builder's one call (the guide's Derived/Test/ToyasCard.lean, 'card_holds'). Laid BY PROGRAM, IN A SANDBOX (cutbox-door.mjs). By AI agents, Wed Nov 11 2026. No macro, syntax, notation, axiom, sorry.
-/
import Derived.Test.YtnkobepdbkmedaaGreatDoorRows
import GoSem.ClaimSeven
namespace Go.Proofs.YtnkobepdbkmedaaGreatDoor
namespace Rows

/-- THE TIED CARD OF 'cambistlaw29.ReportMembers'. -/
def reportMembersCard : Claim7 := { stood := { row := reportMembersRow, standIns := [], harness := (true, "83e6c488a79a253eaf5ac85fcac7182973340d3802ccbbccdd8a0cb995bf3178"), looks := true }, kinds := [], alts := [], laidByText := true, laidKinds := [.data, .data, .data], laidTests := true, laidLooks := .later }
def ReportMembersCardSaid : Prop := Claim7.holds Tryz.pinned (.plain (OpenSpec.ofChange reportMembersSpec)) reportMembersCard

/-- THE TIED CARD OF 'cambistlaw29.ReportTotals'. -/
def reportTotalsCard : Claim7 := { stood := { row := reportTotalsRow, standIns := [], harness := (true, "83e6c488a79a253eaf5ac85fcac7182973340d3802ccbbccdd8a0cb995bf3178"), looks := true }, kinds := [], alts := [], laidByText := true, laidKinds := [.data, .data, .data], laidTests := true, laidLooks := .later }
def ReportTotalsCardSaid : Prop := Claim7.holds Tryz.pinned (.plain (OpenSpec.ofChange reportTotalsSpec)) reportTotalsCard

/-- THE TIED CARD OF 'cambistlaw29.ReportAccounts'. -/
def reportAccountsCard : Claim7 := { stood := { row := reportAccountsRow, standIns := [], harness := (true, "83e6c488a79a253eaf5ac85fcac7182973340d3802ccbbccdd8a0cb995bf3178"), looks := true }, kinds := [], alts := [], laidByText := true, laidKinds := [.data, .data, .data, .sentinel, .sentinel], laidTests := true, laidLooks := .later }
def ReportAccountsCardSaid : Prop := Claim7.holds Tryz.pinned (.plain (OpenSpec.ofChange reportAccountsSpec)) reportAccountsCard

/-- THE TIED CARD OF 'cambistlaw29.ReportRisks'. -/
def reportRisksCard : Claim7 := { stood := { row := reportRisksRow, standIns := [], harness := (true, "83e6c488a79a253eaf5ac85fcac7182973340d3802ccbbccdd8a0cb995bf3178"), looks := true }, kinds := [], alts := [], laidByText := true, laidKinds := [.data, .data, .data, .sentinel, .sentinel], laidTests := true, laidLooks := .later }
def ReportRisksCardSaid : Prop := Claim7.holds Tryz.pinned (.plain (OpenSpec.ofChange reportRisksSpec)) reportRisksCard

/-- THE SECOND FORM's CARD OF 'cambistlaw29.ReportMembers'. -/
def reportMembersUptoCard : Claim7 := { stood := { row := reportMembersUptoRow, standIns := [], harness := (true, "83e6c488a79a253eaf5ac85fcac7182973340d3802ccbbccdd8a0cb995bf3178"), looks := true }, kinds := [], alts := [], laidByText := true, laidKinds := [.data, .data, .data], laidTests := true, laidLooks := .later }
def ReportMembersUptoCardSaid : Prop := Claim7.holds Tryz.pinned (.plain (OpenSpec.upto reportMembersSpec)) reportMembersUptoCard

/-- THE SECOND FORM's CARD OF 'cambistlaw29.ReportTotals'. -/
def reportTotalsUptoCard : Claim7 := { stood := { row := reportTotalsUptoRow, standIns := [], harness := (true, "83e6c488a79a253eaf5ac85fcac7182973340d3802ccbbccdd8a0cb995bf3178"), looks := true }, kinds := [], alts := [], laidByText := true, laidKinds := [.data, .data, .data], laidTests := true, laidLooks := .later }
def ReportTotalsUptoCardSaid : Prop := Claim7.holds Tryz.pinned (.plain (OpenSpec.upto reportTotalsSpec)) reportTotalsUptoCard

/-- THE SECOND FORM's CARD OF 'cambistlaw29.ReportAccounts'. -/
def reportAccountsUptoCard : Claim7 := { stood := { row := reportAccountsUptoRow, standIns := [], harness := (true, "83e6c488a79a253eaf5ac85fcac7182973340d3802ccbbccdd8a0cb995bf3178"), looks := true }, kinds := [], alts := [], laidByText := true, laidKinds := [.data, .data, .data, .sentinel, .sentinel], laidTests := true, laidLooks := .later }
def ReportAccountsUptoCardSaid : Prop := Claim7.holds Tryz.pinned (.plain (OpenSpec.upto reportAccountsSpec)) reportAccountsUptoCard

/-- THE SECOND FORM's CARD OF 'cambistlaw29.ReportRisks'. -/
def reportRisksUptoCard : Claim7 := { stood := { row := reportRisksUptoRow, standIns := [], harness := (true, "83e6c488a79a253eaf5ac85fcac7182973340d3802ccbbccdd8a0cb995bf3178"), looks := true }, kinds := [], alts := [], laidByText := true, laidKinds := [.data, .data, .data, .sentinel, .sentinel], laidTests := true, laidLooks := .later }
def ReportRisksUptoCardSaid : Prop := Claim7.holds Tryz.pinned (.plain (OpenSpec.upto reportRisksSpec)) reportRisksUptoCard
end Rows
end Go.Proofs.YtnkobepdbkmedaaGreatDoor
