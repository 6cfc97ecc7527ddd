/-
  No cell of these rows narrows 'for every input' (looked for: loops, veiled, ifaces, maps, wideKeys, modest, calm, conditions, laid).
  DERIVED. THE GIVEN ROWS OF THIS SEAT. 6 by the template 'for every input the law returns true; each argument reads behind the call as it read before'; 0 by the template 'total and deterministic' (their statements: YtofbcgehemclbaaTotals.lean).
  GIVEN WITH THE SEED: the statements are not yours to turn. If you find one false, say at which input.
  Laid BY PROGRAM, IN A SANDBOX (cutbox-rows.mjs): the forced cells as the released guide's own fill.sh prints them over the translation d0c5cabe07d457a0… (all of the seat's roots in one cut). By AI agents, Wed Nov 11 2026. No macro, syntax, notation, axiom, sorry.
-/
import Derived.Test.YtofbcgehemclbaaChecked
import GoSem.Claim
import GoSem.ClaimJoined
import GoSem.ClaimMapViews
import Derived.JoinedTies
import Derived.KernelRfl
namespace Go.Proofs.Ytofbcgehemclbaa
/- THE CELL 'sum', in the pinned program and in every row, IS THE sha256 OF THE DUMP (.gsa) THAT YtofbcgehemclbaaProg.lean LOADS. Nothing in Lean hashes anything: it is a label: what it is worth is what the hold of that sum in a sandbox is worth. -/
noncomputable def Try.pinned : Pinned := { name := "ytofbcgehemclbaa", sum := "d0c5cabe07d457a0c80a203700ca6e78772dccc17b7803b2bf899ca67d811d50", checked := Try.checked }
namespace Rows
def none {H : Type} : Left H := { results := [], args := [] }

/-- 'parchmentlaw03.LabelKids': WHATEVER THE INPUT: true; the input reads as it did. -/
def labelKidsSpec : ChangeSpec := { name := "labelKids", fn := fun _ => fun
  | [d1, d2] => { results := [.lit (.bool true)], args := [d1, d2] }
  | _ => none }
def labelKidsRow : OpenClaim := { program := "ytofbcgehemclbaa", sum := "d0c5cabe07d457a0c80a203700ca6e78772dccc17b7803b2bf899ca67d811d50", func := "parchment/parchmentlaw03.LabelKids", spec := "labelKids", inPlace := ["internal/bytealg.Compare"], unfollowed := true, recurses := true, apart := false }
def LabelKidsSaid : Prop := labelKidsRow.holds Try.pinned (OpenSpec.ofChange labelKidsSpec)

/-- ITS FALSE NEIGHBOUR: 'it returns false'. Refute it at one input. -/
def labelKidsWrong : ChangeSpec := { name := "labelKids", fn := fun _ => fun
  | [d1, d2] => { results := [.lit (.bool false)], args := [d1, d2] }
  | _ => none }
def LabelKidsWrongFalsely : Prop := labelKidsRow.holds Try.pinned (OpenSpec.ofChange labelKidsWrong)

/-- 'parchmentlaw03.LabelBetween': WHATEVER THE INPUT: true; the input reads as it did. -/
def labelBetweenSpec : ChangeSpec := { name := "labelBetween", fn := fun _ => fun
  | [d1, d2, d3] => { results := [.lit (.bool true)], args := [d1, d2, d3] }
  | _ => none }
def labelBetweenRow : OpenClaim := { program := "ytofbcgehemclbaa", sum := "d0c5cabe07d457a0c80a203700ca6e78772dccc17b7803b2bf899ca67d811d50", func := "parchment/parchmentlaw03.LabelBetween", spec := "labelBetween", inPlace := ["internal/bytealg.Compare"], unfollowed := true, recurses := true, apart := false }
def LabelBetweenSaid : Prop := labelBetweenRow.holds Try.pinned (OpenSpec.ofChange labelBetweenSpec)

/-- ITS FALSE NEIGHBOUR: 'it returns false'. Refute it at one input. -/
def labelBetweenWrong : ChangeSpec := { name := "labelBetween", fn := fun _ => fun
  | [d1, d2, d3] => { results := [.lit (.bool false)], args := [d1, d2, d3] }
  | _ => none }
def LabelBetweenWrongFalsely : Prop := labelBetweenRow.holds Try.pinned (OpenSpec.ofChange labelBetweenWrong)

/-- 'parchmentlaw03.LabelApart': WHATEVER THE INPUT: true; the input reads as it did. -/
def labelApartSpec : ChangeSpec := { name := "labelApart", fn := fun _ => fun
  | [d1, d2] => { results := [.lit (.bool true)], args := [d1, d2] }
  | _ => none }
def labelApartRow : OpenClaim := { program := "ytofbcgehemclbaa", sum := "d0c5cabe07d457a0c80a203700ca6e78772dccc17b7803b2bf899ca67d811d50", func := "parchment/parchmentlaw03.LabelApart", spec := "labelApart", inPlace := ["internal/bytealg.Compare"], unfollowed := true, recurses := true, apart := false }
def LabelApartSaid : Prop := labelApartRow.holds Try.pinned (OpenSpec.ofChange labelApartSpec)

/-- ITS FALSE NEIGHBOUR: 'it returns false'. Refute it at one input. -/
def labelApartWrong : ChangeSpec := { name := "labelApart", fn := fun _ => fun
  | [d1, d2] => { results := [.lit (.bool false)], args := [d1, d2] }
  | _ => none }
def LabelApartWrongFalsely : Prop := labelApartRow.holds Try.pinned (OpenSpec.ofChange labelApartWrong)

/-- 'parchmentlaw03.LabelTells': WHATEVER THE INPUT: true; the input reads as it did. -/
def labelTellsSpec : ChangeSpec := { name := "labelTells", fn := fun _ => fun
  | [d1, d2] => { results := [.lit (.bool true)], args := [d1, d2] }
  | _ => none }
def labelTellsRow : OpenClaim := { program := "ytofbcgehemclbaa", sum := "d0c5cabe07d457a0c80a203700ca6e78772dccc17b7803b2bf899ca67d811d50", func := "parchment/parchmentlaw03.LabelTells", spec := "labelTells", inPlace := ["internal/bytealg.Compare"], unfollowed := true, recurses := true, apart := false }
def LabelTellsSaid : Prop := labelTellsRow.holds Try.pinned (OpenSpec.ofChange labelTellsSpec)

/-- ITS FALSE NEIGHBOUR: 'it returns false'. Refute it at one input. -/
def labelTellsWrong : ChangeSpec := { name := "labelTells", fn := fun _ => fun
  | [d1, d2] => { results := [.lit (.bool false)], args := [d1, d2] }
  | _ => none }
def LabelTellsWrongFalsely : Prop := labelTellsRow.holds Try.pinned (OpenSpec.ofChange labelTellsWrong)

/-- 'parchmentlaw03.LabelGoesOn': WHATEVER THE INPUT: true; the input reads as it did. -/
def labelGoesOnSpec : ChangeSpec := { name := "labelGoesOn", fn := fun _ => fun
  | [d1, d2] => { results := [.lit (.bool true)], args := [d1, d2] }
  | _ => none }
def labelGoesOnRow : OpenClaim := { program := "ytofbcgehemclbaa", sum := "d0c5cabe07d457a0c80a203700ca6e78772dccc17b7803b2bf899ca67d811d50", func := "parchment/parchmentlaw03.LabelGoesOn", spec := "labelGoesOn", inPlace := ["internal/bytealg.Compare"], unfollowed := true, recurses := true, apart := false }
def LabelGoesOnSaid : Prop := labelGoesOnRow.holds Try.pinned (OpenSpec.ofChange labelGoesOnSpec)

/-- ITS FALSE NEIGHBOUR: 'it returns false'. Refute it at one input. -/
def labelGoesOnWrong : ChangeSpec := { name := "labelGoesOn", fn := fun _ => fun
  | [d1, d2] => { results := [.lit (.bool false)], args := [d1, d2] }
  | _ => none }
def LabelGoesOnWrongFalsely : Prop := labelGoesOnRow.holds Try.pinned (OpenSpec.ofChange labelGoesOnWrong)

/-- 'parchmentlaw03.LabelTree': WHATEVER THE INPUT: true; the input reads as it did. -/
def labelTreeSpec : ChangeSpec := { name := "labelTree", fn := fun _ => fun
  | [d] => { results := [.lit (.bool true)], args := [d] }
  | _ => none }
def labelTreeRow : OpenClaim := { program := "ytofbcgehemclbaa", sum := "d0c5cabe07d457a0c80a203700ca6e78772dccc17b7803b2bf899ca67d811d50", func := "parchment/parchmentlaw03.LabelTree", spec := "labelTree", inPlace := ["internal/bytealg.Compare"], unfollowed := true, recurses := true, apart := false }
def LabelTreeSaid : Prop := labelTreeRow.holds Try.pinned (OpenSpec.ofChange labelTreeSpec)

/-- ITS FALSE NEIGHBOUR: 'it returns false'. Refute it at one input. -/
def labelTreeWrong : ChangeSpec := { name := "labelTree", fn := fun _ => fun
  | [d] => { results := [.lit (.bool false)], args := [d] }
  | _ => none }
def LabelTreeWrongFalsely : Prop := labelTreeRow.holds Try.pinned (OpenSpec.ofChange labelTreeWrong)

/- THE SECOND FORM. 'bulk': how many values and letters a reading holds, each counted each time it is reached (what is shared counts as often as it is met; a slice's spare places count too). A statement '..UptoSaid' is the law's where the arguments, and the package variables that the reading takes, are together of bulk at most 1048576: NARROWER than '..Said'. Prove '..Said' where nothing that the law and all that it calls make is longer than what came in: it says more and counts as full. Else prove '..UptoSaid'. A law counts once. -/
mutual
def uptoBulk {H : Type} : DataW H → Nat
  | .lit (.string bytes) => bytes.length + 1
  | .lit _ => 1
  | .nil => 1
  | .ptr d => uptoBulk d + 1
  | .slice elems spare => uptoBulkAll elems + uptoBulkAll spare + 1
  | .agg parts => uptoBulkAll parts + 1
  | .iface _ d => uptoBulk d + 1
  | .map entries => uptoBulkEntries entries + 1
  | .held _ => 1
def uptoBulkAll {H : Type} : List (DataW H) → Nat
  | [] => 0
  | d :: r => uptoBulk d + uptoBulkAll r
def uptoBulkEntries {H : Type} : List (Lit × DataW H) → Nat
  | [] => 0
  | x :: r => uptoBulkEntry x + uptoBulkEntries r
def uptoBulkEntry {H : Type} : Lit × DataW H → Nat
  | (.string bytes, d) => bytes.length + uptoBulk d + 1
  | (_, d) => uptoBulk d + 1
 end
def uptoSmall : (H : Type) → List (DataW H) → Bool := fun _ ds => decide (uptoBulkAll ds ≤ 1048576)
def OpenSpec.upto (s : _root_.Go.ChangeSpec) : _root_.Go.OpenSpec := { _root_.Go.OpenSpec.ofChange s with cond := some uptoSmall }

/-- 'parchmentlaw03.LabelKids', WHERE WHAT IT READS IS OF BULK AT MOST 1048576: true; the input reads as it did. -/
def labelKidsUptoRow : OpenClaim := { program := "ytofbcgehemclbaa", sum := "d0c5cabe07d457a0c80a203700ca6e78772dccc17b7803b2bf899ca67d811d50", func := "parchment/parchmentlaw03.LabelKids", spec := "labelKids", inPlace := ["internal/bytealg.Compare"], unfollowed := true, recurses := true, apart := false, narrowed := true }
def LabelKidsUptoSaid : Prop := labelKidsUptoRow.holds Try.pinned (OpenSpec.upto labelKidsSpec)

/-- 'parchmentlaw03.LabelBetween', WHERE WHAT IT READS IS OF BULK AT MOST 1048576: true; the input reads as it did. -/
def labelBetweenUptoRow : OpenClaim := { program := "ytofbcgehemclbaa", sum := "d0c5cabe07d457a0c80a203700ca6e78772dccc17b7803b2bf899ca67d811d50", func := "parchment/parchmentlaw03.LabelBetween", spec := "labelBetween", inPlace := ["internal/bytealg.Compare"], unfollowed := true, recurses := true, apart := false, narrowed := true }
def LabelBetweenUptoSaid : Prop := labelBetweenUptoRow.holds Try.pinned (OpenSpec.upto labelBetweenSpec)

/-- 'parchmentlaw03.LabelApart', WHERE WHAT IT READS IS OF BULK AT MOST 1048576: true; the input reads as it did. -/
def labelApartUptoRow : OpenClaim := { program := "ytofbcgehemclbaa", sum := "d0c5cabe07d457a0c80a203700ca6e78772dccc17b7803b2bf899ca67d811d50", func := "parchment/parchmentlaw03.LabelApart", spec := "labelApart", inPlace := ["internal/bytealg.Compare"], unfollowed := true, recurses := true, apart := false, narrowed := true }
def LabelApartUptoSaid : Prop := labelApartUptoRow.holds Try.pinned (OpenSpec.upto labelApartSpec)

/-- 'parchmentlaw03.LabelTells', WHERE WHAT IT READS IS OF BULK AT MOST 1048576: true; the input reads as it did. -/
def labelTellsUptoRow : OpenClaim := { program := "ytofbcgehemclbaa", sum := "d0c5cabe07d457a0c80a203700ca6e78772dccc17b7803b2bf899ca67d811d50", func := "parchment/parchmentlaw03.LabelTells", spec := "labelTells", inPlace := ["internal/bytealg.Compare"], unfollowed := true, recurses := true, apart := false, narrowed := true }
def LabelTellsUptoSaid : Prop := labelTellsUptoRow.holds Try.pinned (OpenSpec.upto labelTellsSpec)

/-- 'parchmentlaw03.LabelGoesOn', WHERE WHAT IT READS IS OF BULK AT MOST 1048576: true; the input reads as it did. -/
def labelGoesOnUptoRow : OpenClaim := { program := "ytofbcgehemclbaa", sum := "d0c5cabe07d457a0c80a203700ca6e78772dccc17b7803b2bf899ca67d811d50", func := "parchment/parchmentlaw03.LabelGoesOn", spec := "labelGoesOn", inPlace := ["internal/bytealg.Compare"], unfollowed := true, recurses := true, apart := false, narrowed := true }
def LabelGoesOnUptoSaid : Prop := labelGoesOnUptoRow.holds Try.pinned (OpenSpec.upto labelGoesOnSpec)

/-- 'parchmentlaw03.LabelTree', WHERE WHAT IT READS IS OF BULK AT MOST 1048576: true; the input reads as it did. -/
def labelTreeUptoRow : OpenClaim := { program := "ytofbcgehemclbaa", sum := "d0c5cabe07d457a0c80a203700ca6e78772dccc17b7803b2bf899ca67d811d50", func := "parchment/parchmentlaw03.LabelTree", spec := "labelTree", inPlace := ["internal/bytealg.Compare"], unfollowed := true, recurses := true, apart := false, narrowed := true }
def LabelTreeUptoSaid : Prop := labelTreeUptoRow.holds Try.pinned (OpenSpec.upto labelTreeSpec)

end Rows
end Go.Proofs.Ytofbcgehemclbaa
