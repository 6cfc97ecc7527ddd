/-
  DERIVED. GIVEN WITH THE SEED: THE CARDS: each row of YtcbllanmnalomaaGreatDoorRows.lean that lists a variable, with what it lists TIED to the program's text (the seventh form; the later family's looks); each row that meets fmt, with fmt's text TOLD by the authors' own Lean function (tested against real Go, not proved from fmt's source: count such statements apart). THE CARD IS WHAT COUNTS. Prove the row's statement (the work); the ties are given (YtcbllanmnalomaaGreatDoorTie.lean); close each card by the builder's one call (the guide's Derived/Test/ToyasCard.lean, 'card_holds'). Laid BY PROGRAM, IN A SANDBOX (cutbox-door.mjs). By AI agents, Wed Nov 11 2026. No macro, syntax, notation, axiom, sorry.
-/
import Derived.Test.YtcbllanmnalomaaGreatDoorRows
import GoSem.ClaimSeven
namespace Go.Proofs.YtcbllanmnalomaaGreatDoor
namespace Rows

/-- THE TIED CARD OF 'parchmentlaw16.CursorNil'. -/
def cursorNilCard : Claim7 := { stood := { row := cursorNilRow, standIns := [], harness := (true, "68539c9438fc2f38356cd985d2b0f8306e7cdd496210c6036d8bb52448807fc4"), looks := false }, kinds := [], alts := [], laidByText := true, laidKinds := [.data, .pinned], laidTests := true, laidLooks := .later }
def CursorNilCardSaid : Prop := Claim7.holds Tryz.pinned (.plain (OpenSpec.ofChange cursorNilSpec)) cursorNilCard

/-- THE SECOND FORM's CARD OF 'parchmentlaw16.CursorNil'. -/
def cursorNilUptoCard : Claim7 := { stood := { row := cursorNilUptoRow, standIns := [], harness := (true, "68539c9438fc2f38356cd985d2b0f8306e7cdd496210c6036d8bb52448807fc4"), looks := false }, kinds := [], alts := [], laidByText := true, laidKinds := [.data, .pinned], laidTests := true, laidLooks := .later }
def CursorNilUptoCardSaid : Prop := Claim7.holds Tryz.pinned (.plain (OpenSpec.upto cursorNilSpec)) cursorNilUptoCard
end Rows
end Go.Proofs.YtcbllanmnalomaaGreatDoor
