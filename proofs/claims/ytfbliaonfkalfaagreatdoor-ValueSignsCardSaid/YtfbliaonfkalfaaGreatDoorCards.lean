/-
  DERIVED. GIVEN WITH THE SEED: THE CARDS: each row of YtfbliaonfkalfaaGreatDoorRows.lean that lists a variable, with what it lists TIED to the program's text (the seventh form; the later family's looks); each row that meets fmt, with fmt's text TOLD by the authors' own Lean function (tested against real Go, not proved from fmt's source: count such statements apart). THE CARD IS WHAT COUNTS. Prove the row's statement (the work); the ties are given (YtfbliaonfkalfaaGreatDoorTie.lean); close each card by the builder's one call (the guide's Derived/Test/ToyasCard.lean, 'card_holds'). Laid BY PROGRAM, IN A SANDBOX (cutbox-door.mjs). By AI agents, Wed Nov 11 2026. No macro, syntax, notation, axiom, sorry.
-/
import Derived.Test.YtfbliaonfkalfaaGreatDoorRows
import GoSem.ClaimSeven
namespace Go.Proofs.YtfbliaonfkalfaaGreatDoor
namespace Rows

/-- THE TIED CARD OF 'parchmentlaw25.ValueSigns'. -/
def valueSignsCard : Claim7 := { stood := { row := valueSignsRow, standIns := [], harness := (true, "2397f8448d94d0cb0b1f1e586ae5d9fa43bfffd9e1453efe23c234a8b43bdc27"), looks := true }, kinds := [], alts := [], laidByText := true, laidKinds := [.data, .data, .data, .data, .sentinel, .sentinel, .data, .pinned], laidTests := true, laidLooks := .later }
def ValueSignsCardSaid : Prop := Claim7.holds Tryz.pinned (.plain (OpenSpec.ofChange valueSignsSpec)) valueSignsCard

/-- THE SECOND FORM's CARD OF 'parchmentlaw25.ValueSigns'. -/
def valueSignsUptoCard : Claim7 := { stood := { row := valueSignsUptoRow, standIns := [], harness := (true, "2397f8448d94d0cb0b1f1e586ae5d9fa43bfffd9e1453efe23c234a8b43bdc27"), looks := true }, kinds := [], alts := [], laidByText := true, laidKinds := [.data, .data, .data, .data, .sentinel, .sentinel, .data, .pinned], laidTests := true, laidLooks := .later }
def ValueSignsUptoCardSaid : Prop := Claim7.holds Tryz.pinned (.plain (OpenSpec.upto valueSignsSpec)) valueSignsUptoCard
end Rows
end Go.Proofs.YtfbliaonfkalfaaGreatDoor
