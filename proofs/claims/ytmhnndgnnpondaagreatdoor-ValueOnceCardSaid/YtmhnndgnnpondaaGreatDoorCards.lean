/-
  DERIVED. GIVEN WITH THE SEED: THE CARDS: each row of YtmhnndgnnpondaaGreatDoorRows.lean that lists a variable, with what it lists TIED to the program's text (the seventh form; the later family's looks); each row that meets fmt, with fmt's text TOLD by the authors' own Lean function (tested against real Go, not proved from fmt's source: count such statements apart). THE CARD IS WHAT COUNTS. Prove the row's statement (the work); the ties are given (YtmhnndgnnpondaaGreatDoorTie.lean); close each card by the builder's one call (the guide's Derived/Test/ToyasCard.lean, 'card_holds'). Laid BY PROGRAM, IN A SANDBOX (cutbox-door.mjs). By AI agents, Wed Nov 11 2026. No macro, syntax, notation, axiom, sorry.
-/
import Derived.Test.YtmhnndgnnpondaaGreatDoorRows
import GoSem.ClaimSeven
namespace Go.Proofs.YtmhnndgnnpondaaGreatDoor
namespace Rows

/-- THE TIED CARD OF 'parchmentlaw25.ValueOnce'. -/
def valueOnceCard : Claim7 := { stood := { row := valueOnceRow, standIns := [], harness := (true, "610b1e02560f84bc382983d348cf49fba37ad3c1c52cd10065a1ce68d960bbda"), looks := true }, kinds := [], alts := [], laidByText := true, laidKinds := [.data, .data, .data, .data, .sentinel, .sentinel, .data, .pinned], laidTests := true, laidLooks := .later }
def ValueOnceCardSaid : Prop := Claim7.holds Tryz.pinned (.plain (OpenSpec.ofChange valueOnceSpec)) valueOnceCard

/-- THE TIED CARD OF 'parchmentlaw25.ValueMakes'. -/
def valueMakesCard : Claim7 := { stood := { row := valueMakesRow, standIns := [], harness := (true, "610b1e02560f84bc382983d348cf49fba37ad3c1c52cd10065a1ce68d960bbda"), looks := true }, kinds := [], alts := [], laidByText := true, laidKinds := [.data, .data, .data, .data, .sentinel, .sentinel, .data, .pinned], laidTests := true, laidLooks := .later }
def ValueMakesCardSaid : Prop := Claim7.holds Tryz.pinned (.plain (OpenSpec.ofChange valueMakesSpec)) valueMakesCard

/-- THE SECOND FORM's CARD OF 'parchmentlaw25.ValueOnce'. -/
def valueOnceUptoCard : Claim7 := { stood := { row := valueOnceUptoRow, standIns := [], harness := (true, "610b1e02560f84bc382983d348cf49fba37ad3c1c52cd10065a1ce68d960bbda"), looks := true }, kinds := [], alts := [], laidByText := true, laidKinds := [.data, .data, .data, .data, .sentinel, .sentinel, .data, .pinned], laidTests := true, laidLooks := .later }
def ValueOnceUptoCardSaid : Prop := Claim7.holds Tryz.pinned (.plain (OpenSpec.upto valueOnceSpec)) valueOnceUptoCard

/-- THE SECOND FORM's CARD OF 'parchmentlaw25.ValueMakes'. -/
def valueMakesUptoCard : Claim7 := { stood := { row := valueMakesUptoRow, standIns := [], harness := (true, "610b1e02560f84bc382983d348cf49fba37ad3c1c52cd10065a1ce68d960bbda"), looks := true }, kinds := [], alts := [], laidByText := true, laidKinds := [.data, .data, .data, .data, .sentinel, .sentinel, .data, .pinned], laidTests := true, laidLooks := .later }
def ValueMakesUptoCardSaid : Prop := Claim7.holds Tryz.pinned (.plain (OpenSpec.upto valueMakesSpec)) valueMakesUptoCard
end Rows
end Go.Proofs.YtmhnndgnnpondaaGreatDoor
