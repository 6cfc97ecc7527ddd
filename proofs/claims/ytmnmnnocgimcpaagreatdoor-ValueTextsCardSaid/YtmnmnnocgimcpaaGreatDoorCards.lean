/-
  DERIVED. GIVEN WITH THE SEED: THE CARDS: each row of YtmnmnnocgimcpaaGreatDoorRows.lean that lists a variable, with what it lists TIED to the program's text (the seventh form; the later family's looks); each row that meets fmt, with fmt's text TOLD by the authors' own Lean function (tested against real Go, not proved from fmt's source: count such statements apart). THE CARD IS WHAT COUNTS. Prove the row's statement (the work); the ties are given (YtmnmnnocgimcpaaGreatDoorTie.lean); close each card by the builder's one call (the guide's Derived/Test/ToyasCard.lean, 'card_holds'). Laid BY PROGRAM, IN A SANDBOX (cutbox-door.mjs). By AI agents, Wed Nov 11 2026. No macro, syntax, notation, axiom, sorry.
-/
import Derived.Test.YtmnmnnocgimcpaaGreatDoorRows
import GoSem.ClaimSeven
namespace Go.Proofs.YtmnmnnocgimcpaaGreatDoor
namespace Rows

/-- THE TIED CARD OF 'parchmentlaw25.ValueCalls'. -/
def valueCallsCard : Claim7 := { stood := { row := valueCallsRow, standIns := [], harness := (true, "7d521389bec2b351a60e93e2f386b79d89a4b383d1261b779662e01fc1d0a361"), looks := true }, kinds := [], alts := [], laidByText := true, laidKinds := [.data, .data, .data, .data, .sentinel, .sentinel, .data, .pinned], laidTests := true, laidLooks := .later }
def ValueCallsCardSaid : Prop := Claim7.holds Tryz.pinned (.plain (OpenSpec.ofChange valueCallsSpec)) valueCallsCard

/-- THE TIED CARD OF 'parchmentlaw25.ValueTexts'. -/
def valueTextsCard : Claim7 := { stood := { row := valueTextsRow, standIns := [], harness := (true, "7d521389bec2b351a60e93e2f386b79d89a4b383d1261b779662e01fc1d0a361"), looks := true }, kinds := [], alts := [], laidByText := true, laidKinds := [.data, .data, .data, .data, .sentinel, .sentinel, .data, .pinned], laidTests := true, laidLooks := .later }
def ValueTextsCardSaid : Prop := Claim7.holds Tryz.pinned (.plain (OpenSpec.ofChange valueTextsSpec)) valueTextsCard

/-- THE SECOND FORM's CARD OF 'parchmentlaw25.ValueCalls'. -/
def valueCallsUptoCard : Claim7 := { stood := { row := valueCallsUptoRow, standIns := [], harness := (true, "7d521389bec2b351a60e93e2f386b79d89a4b383d1261b779662e01fc1d0a361"), looks := true }, kinds := [], alts := [], laidByText := true, laidKinds := [.data, .data, .data, .data, .sentinel, .sentinel, .data, .pinned], laidTests := true, laidLooks := .later }
def ValueCallsUptoCardSaid : Prop := Claim7.holds Tryz.pinned (.plain (OpenSpec.upto valueCallsSpec)) valueCallsUptoCard

/-- THE SECOND FORM's CARD OF 'parchmentlaw25.ValueTexts'. -/
def valueTextsUptoCard : Claim7 := { stood := { row := valueTextsUptoRow, standIns := [], harness := (true, "7d521389bec2b351a60e93e2f386b79d89a4b383d1261b779662e01fc1d0a361"), looks := true }, kinds := [], alts := [], laidByText := true, laidKinds := [.data, .data, .data, .data, .sentinel, .sentinel, .data, .pinned], laidTests := true, laidLooks := .later }
def ValueTextsUptoCardSaid : Prop := Claim7.holds Tryz.pinned (.plain (OpenSpec.upto valueTextsSpec)) valueTextsUptoCard
end Rows
end Go.Proofs.YtmnmnnocgimcpaaGreatDoor
