/-
  DERIVED. GIVEN WITH THE SEED: THE CARDS: each row of YtaieiogmolaebaaGreatDoorRows.lean that lists a variable, with what it lists TIED to the program's text (the seventh form; the later family's looks); each row that meets fmt, with fmt's text TOLD by the authors' own Lean function (tested against real Go, not proved from fmt's source: count such statements apart). THE CARD IS WHAT COUNTS. Prove the row's statement (the work); the ties are given (YtaieiogmolaebaaGreatDoorTie.lean); close each card by the builder's one call (the guide's Derived/Test/ToyasCard.lean, 'card_holds'). Laid BY PROGRAM, IN A SANDBOX (cutbox-door.mjs). By AI agents, Wed Nov 11 2026. No macro, syntax, notation, axiom, sorry.
-/
import Derived.Test.YtaieiogmolaebaaGreatDoorRows
import GoSem.ClaimSeven
namespace Go.Proofs.YtaieiogmolaebaaGreatDoor
namespace Rows

/-- THE TIED CARD OF 'parchmentlaw25.ValueCalls'. -/
def valueCallsCard : Claim7 := { stood := { row := valueCallsRow, standIns := [], harness := (true, "b02a0aab492d083e3b98c4dc2f1a750d03491a25c171cfdde54288e26342174b"), looks := true }, kinds := [], alts := [], laidByText := true, laidKinds := [.data, .data, .data, .data, .sentinel, .sentinel, .data, .pinned], laidTests := true, laidLooks := .later }
def ValueCallsCardSaid : Prop := Claim7.holds Tryz.pinned (.plain (OpenSpec.ofChange valueCallsSpec)) valueCallsCard

/-- THE SECOND FORM's CARD OF 'parchmentlaw25.ValueCalls'. -/
def valueCallsUptoCard : Claim7 := { stood := { row := valueCallsUptoRow, standIns := [], harness := (true, "b02a0aab492d083e3b98c4dc2f1a750d03491a25c171cfdde54288e26342174b"), looks := true }, kinds := [], alts := [], laidByText := true, laidKinds := [.data, .data, .data, .data, .sentinel, .sentinel, .data, .pinned], laidTests := true, laidLooks := .later }
def ValueCallsUptoCardSaid : Prop := Claim7.holds Tryz.pinned (.plain (OpenSpec.upto valueCallsSpec)) valueCallsUptoCard
end Rows
end Go.Proofs.YtaieiogmolaebaaGreatDoor
