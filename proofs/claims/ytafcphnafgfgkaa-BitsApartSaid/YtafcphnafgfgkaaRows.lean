/-
  No cell of these rows narrows 'for every input' (looked for: loops, veiled, ifaces, maps, wideKeys, modest, calm, conditions, laid).
  DERIVED. THE GIVEN ROWS OF THIS SEAT. 7 by the template 'for every input the law returns true; each argument reads behind the call as it read before'; 0 by the template 'total and deterministic' (their statements: YtafcphnafgfgkaaTotals.lean).
  GIVEN WITH THE SEED: the statements are not yours to turn. If you find one false, say at which input.
  Laid BY PROGRAM, IN A SANDBOX (cutbox-rows.mjs): the forced cells as the released guide's own fill.sh prints them over the translation e3df0853562d1f26… (all of the seat's roots in one cut). By AI agents, Wed Nov 11 2026. No macro, syntax, notation, axiom, sorry.
-/
import Derived.Test.YtafcphnafgfgkaaChecked
import GoSem.Claim
import GoSem.ClaimJoined
import GoSem.ClaimMapViews
import Derived.JoinedTies
import Derived.KernelRfl
namespace Go.Proofs.Ytafcphnafgfgkaa
/- THE CELL 'sum', in the pinned program and in every row, IS THE sha256 OF THE DUMP (.gsa) THAT YtafcphnafgfgkaaProg.lean LOADS. Nothing in Lean hashes anything: it is a label: what it is worth is what the hold of that sum in a sandbox is worth. -/
noncomputable def Try.pinned : Pinned := { name := "ytafcphnafgfgkaa", sum := "e3df0853562d1f26389eced27e84fbef33af8be31c2a1ba94abac93d56e4f84c", checked := Try.checked }
namespace Rows
def none {H : Type} : Left H := { results := [], args := [] }

/-- 'parchmentlaw02.BitsLong': WHATEVER THE INPUT: true; the input reads as it did. -/
def bitsLongSpec : ChangeSpec := { name := "bitsLong", fn := fun _ => fun
  | [d] => { results := [.lit (.bool true)], args := [d] }
  | _ => none }
def bitsLongRow : OpenClaim := { program := "ytafcphnafgfgkaa", sum := "e3df0853562d1f26389eced27e84fbef33af8be31c2a1ba94abac93d56e4f84c", func := "parchment/parchmentlaw02.BitsLong", spec := "bitsLong", inPlace := ["internal/abi.NoEscape"], apart := false }
def BitsLongSaid : Prop := bitsLongRow.holds Try.pinned (OpenSpec.ofChange bitsLongSpec)

/-- ITS FALSE NEIGHBOUR: 'it returns false'. Refute it at one input. -/
def bitsLongWrong : ChangeSpec := { name := "bitsLong", fn := fun _ => fun
  | [d] => { results := [.lit (.bool false)], args := [d] }
  | _ => none }
def BitsLongWrongFalsely : Prop := bitsLongRow.holds Try.pinned (OpenSpec.ofChange bitsLongWrong)

/-- 'parchmentlaw02.BitsApart': WHATEVER THE INPUT: true; the input reads as it did. -/
def bitsApartSpec : ChangeSpec := { name := "bitsApart", fn := fun _ => fun
  | [d] => { results := [.lit (.bool true)], args := [d] }
  | _ => none }
def bitsApartRow : OpenClaim := { program := "ytafcphnafgfgkaa", sum := "e3df0853562d1f26389eced27e84fbef33af8be31c2a1ba94abac93d56e4f84c", func := "parchment/parchmentlaw02.BitsApart", spec := "bitsApart", inPlace := ["internal/abi.NoEscape"], recurses := true, apart := false }
def BitsApartSaid : Prop := bitsApartRow.holds Try.pinned (OpenSpec.ofChange bitsApartSpec)

/-- ITS FALSE NEIGHBOUR: 'it returns false'. Refute it at one input. -/
def bitsApartWrong : ChangeSpec := { name := "bitsApart", fn := fun _ => fun
  | [d] => { results := [.lit (.bool false)], args := [d] }
  | _ => none }
def BitsApartWrongFalsely : Prop := bitsApartRow.holds Try.pinned (OpenSpec.ofChange bitsApartWrong)

/-- 'parchmentlaw02.BitsPack': WHATEVER THE INPUT: true; the input reads as it did. -/
def bitsPackSpec : ChangeSpec := { name := "bitsPack", fn := fun _ => fun
  | [d1, d2, d3] => { results := [.lit (.bool true)], args := [d1, d2, d3] }
  | _ => none }
def bitsPackRow : OpenClaim := { program := "ytafcphnafgfgkaa", sum := "e3df0853562d1f26389eced27e84fbef33af8be31c2a1ba94abac93d56e4f84c", func := "parchment/parchmentlaw02.BitsPack", spec := "bitsPack", inPlace := ["internal/abi.NoEscape"], apart := false }
def BitsPackSaid : Prop := bitsPackRow.holds Try.pinned (OpenSpec.ofChange bitsPackSpec)

/-- ITS FALSE NEIGHBOUR: 'it returns false'. Refute it at one input. -/
def bitsPackWrong : ChangeSpec := { name := "bitsPack", fn := fun _ => fun
  | [d1, d2, d3] => { results := [.lit (.bool false)], args := [d1, d2, d3] }
  | _ => none }
def BitsPackWrongFalsely : Prop := bitsPackRow.holds Try.pinned (OpenSpec.ofChange bitsPackWrong)

/-- 'parchmentlaw02.BitsSay': WHATEVER THE INPUT: true; the input reads as it did. -/
def bitsSaySpec : ChangeSpec := { name := "bitsSay", fn := fun _ => fun
  | [d1, d2, d3, d4] => { results := [.lit (.bool true)], args := [d1, d2, d3, d4] }
  | _ => none }
def bitsSayRow : OpenClaim := { program := "ytafcphnafgfgkaa", sum := "e3df0853562d1f26389eced27e84fbef33af8be31c2a1ba94abac93d56e4f84c", func := "parchment/parchmentlaw02.BitsSay", spec := "bitsSay", inPlace := ["internal/abi.NoEscape"], apart := false }
def BitsSaySaid : Prop := bitsSayRow.holds Try.pinned (OpenSpec.ofChange bitsSaySpec)

/-- ITS FALSE NEIGHBOUR: 'it returns false'. Refute it at one input. -/
def bitsSayWrong : ChangeSpec := { name := "bitsSay", fn := fun _ => fun
  | [d1, d2, d3, d4] => { results := [.lit (.bool false)], args := [d1, d2, d3, d4] }
  | _ => none }
def BitsSayWrongFalsely : Prop := bitsSayRow.holds Try.pinned (OpenSpec.ofChange bitsSayWrong)

/-- 'parchmentlaw02.BitsOrder': WHATEVER THE INPUT: true; the input reads as it did. -/
def bitsOrderSpec : ChangeSpec := { name := "bitsOrder", fn := fun _ => fun
  | [d1, d2, d3] => { results := [.lit (.bool true)], args := [d1, d2, d3] }
  | _ => none }
def bitsOrderRow : OpenClaim := { program := "ytafcphnafgfgkaa", sum := "e3df0853562d1f26389eced27e84fbef33af8be31c2a1ba94abac93d56e4f84c", func := "parchment/parchmentlaw02.BitsOrder", spec := "bitsOrder", inPlace := ["internal/abi.NoEscape", "internal/bytealg.Compare"], apart := false }
def BitsOrderSaid : Prop := bitsOrderRow.holds Try.pinned (OpenSpec.ofChange bitsOrderSpec)

/-- ITS FALSE NEIGHBOUR: 'it returns false'. Refute it at one input. -/
def bitsOrderWrong : ChangeSpec := { name := "bitsOrder", fn := fun _ => fun
  | [d1, d2, d3] => { results := [.lit (.bool false)], args := [d1, d2, d3] }
  | _ => none }
def BitsOrderWrongFalsely : Prop := bitsOrderRow.holds Try.pinned (OpenSpec.ofChange bitsOrderWrong)

/-- 'parchmentlaw02.BitsStand': WHATEVER THE INPUT: true; the input reads as it did. -/
def bitsStandSpec : ChangeSpec := { name := "bitsStand", fn := fun _ => fun
  | [d1, d2] => { results := [.lit (.bool true)], args := [d1, d2] }
  | _ => none }
def bitsStandRow : OpenClaim := { program := "ytafcphnafgfgkaa", sum := "e3df0853562d1f26389eced27e84fbef33af8be31c2a1ba94abac93d56e4f84c", func := "parchment/parchmentlaw02.BitsStand", spec := "bitsStand", inPlace := ["internal/abi.NoEscape", "internal/bytealg.Compare"], apart := false }
def BitsStandSaid : Prop := bitsStandRow.holds Try.pinned (OpenSpec.ofChange bitsStandSpec)

/-- ITS FALSE NEIGHBOUR: 'it returns false'. Refute it at one input. -/
def bitsStandWrong : ChangeSpec := { name := "bitsStand", fn := fun _ => fun
  | [d1, d2] => { results := [.lit (.bool false)], args := [d1, d2] }
  | _ => none }
def BitsStandWrongFalsely : Prop := bitsStandRow.holds Try.pinned (OpenSpec.ofChange bitsStandWrong)

/-- 'parchmentlaw02.BitsKeep': WHATEVER THE INPUT: true; the input reads as it did. -/
def bitsKeepSpec : ChangeSpec := { name := "bitsKeep", fn := fun _ => fun
  | [d1, d2, d3] => { results := [.lit (.bool true)], args := [d1, d2, d3] }
  | _ => none }
def bitsKeepRow : OpenClaim := { program := "ytafcphnafgfgkaa", sum := "e3df0853562d1f26389eced27e84fbef33af8be31c2a1ba94abac93d56e4f84c", func := "parchment/parchmentlaw02.BitsKeep", spec := "bitsKeep", inPlace := ["internal/abi.NoEscape", "internal/bytealg.Compare"], apart := false }
def BitsKeepSaid : Prop := bitsKeepRow.holds Try.pinned (OpenSpec.ofChange bitsKeepSpec)

/-- ITS FALSE NEIGHBOUR: 'it returns false'. Refute it at one input. -/
def bitsKeepWrong : ChangeSpec := { name := "bitsKeep", fn := fun _ => fun
  | [d1, d2, d3] => { results := [.lit (.bool false)], args := [d1, d2, d3] }
  | _ => none }
def BitsKeepWrongFalsely : Prop := bitsKeepRow.holds Try.pinned (OpenSpec.ofChange bitsKeepWrong)

/- THE SECOND FORM. 'bulk': how many values and letters a reading holds, each counted each time it is reached (what is shared counts as often as it is met; a slice's spare places count too). A statement '..UptoSaid' is the law's where the arguments, and the package variables that the reading takes, are together of bulk at most 1048576: NARROWER than '..Said'. Prove '..Said' where nothing that the law and all that it calls make is longer than what came in: it says more and counts as full. Else prove '..UptoSaid'. A law counts once. -/
mutual
def uptoBulk {H : Type} : DataW H → Nat
  | .lit (.string bytes) => bytes.length + 1
  | .lit _ => 1
  | .nil => 1
  | .ptr d => uptoBulk d + 1
  | .slice elems spare => uptoBulkAll elems + uptoBulkAll spare + 1
  | .agg parts => uptoBulkAll parts + 1
  | .iface _ d => uptoBulk d + 1
  | .map entries => uptoBulkEntries entries + 1
  | .held _ => 1
def uptoBulkAll {H : Type} : List (DataW H) → Nat
  | [] => 0
  | d :: r => uptoBulk d + uptoBulkAll r
def uptoBulkEntries {H : Type} : List (Lit × DataW H) → Nat
  | [] => 0
  | x :: r => uptoBulkEntry x + uptoBulkEntries r
def uptoBulkEntry {H : Type} : Lit × DataW H → Nat
  | (.string bytes, d) => bytes.length + uptoBulk d + 1
  | (_, d) => uptoBulk d + 1
 end
def uptoSmall : (H : Type) → List (DataW H) → Bool := fun _ ds => decide (uptoBulkAll ds ≤ 1048576)
def OpenSpec.upto (s : _root_.Go.ChangeSpec) : _root_.Go.OpenSpec := { _root_.Go.OpenSpec.ofChange s with cond := some uptoSmall }

/-- 'parchmentlaw02.BitsLong', WHERE WHAT IT READS IS OF BULK AT MOST 1048576: true; the input reads as it did. -/
def bitsLongUptoRow : OpenClaim := { program := "ytafcphnafgfgkaa", sum := "e3df0853562d1f26389eced27e84fbef33af8be31c2a1ba94abac93d56e4f84c", func := "parchment/parchmentlaw02.BitsLong", spec := "bitsLong", inPlace := ["internal/abi.NoEscape"], apart := false, narrowed := true }
def BitsLongUptoSaid : Prop := bitsLongUptoRow.holds Try.pinned (OpenSpec.upto bitsLongSpec)

/-- 'parchmentlaw02.BitsApart', WHERE WHAT IT READS IS OF BULK AT MOST 1048576: true; the input reads as it did. -/
def bitsApartUptoRow : OpenClaim := { program := "ytafcphnafgfgkaa", sum := "e3df0853562d1f26389eced27e84fbef33af8be31c2a1ba94abac93d56e4f84c", func := "parchment/parchmentlaw02.BitsApart", spec := "bitsApart", inPlace := ["internal/abi.NoEscape"], recurses := true, apart := false, narrowed := true }
def BitsApartUptoSaid : Prop := bitsApartUptoRow.holds Try.pinned (OpenSpec.upto bitsApartSpec)

/-- 'parchmentlaw02.BitsPack', WHERE WHAT IT READS IS OF BULK AT MOST 1048576: true; the input reads as it did. -/
def bitsPackUptoRow : OpenClaim := { program := "ytafcphnafgfgkaa", sum := "e3df0853562d1f26389eced27e84fbef33af8be31c2a1ba94abac93d56e4f84c", func := "parchment/parchmentlaw02.BitsPack", spec := "bitsPack", inPlace := ["internal/abi.NoEscape"], apart := false, narrowed := true }
def BitsPackUptoSaid : Prop := bitsPackUptoRow.holds Try.pinned (OpenSpec.upto bitsPackSpec)

/-- 'parchmentlaw02.BitsSay', WHERE WHAT IT READS IS OF BULK AT MOST 1048576: true; the input reads as it did. -/
def bitsSayUptoRow : OpenClaim := { program := "ytafcphnafgfgkaa", sum := "e3df0853562d1f26389eced27e84fbef33af8be31c2a1ba94abac93d56e4f84c", func := "parchment/parchmentlaw02.BitsSay", spec := "bitsSay", inPlace := ["internal/abi.NoEscape"], apart := false, narrowed := true }
def BitsSayUptoSaid : Prop := bitsSayUptoRow.holds Try.pinned (OpenSpec.upto bitsSaySpec)

/-- 'parchmentlaw02.BitsOrder', WHERE WHAT IT READS IS OF BULK AT MOST 1048576: true; the input reads as it did. -/
def bitsOrderUptoRow : OpenClaim := { program := "ytafcphnafgfgkaa", sum := "e3df0853562d1f26389eced27e84fbef33af8be31c2a1ba94abac93d56e4f84c", func := "parchment/parchmentlaw02.BitsOrder", spec := "bitsOrder", inPlace := ["internal/abi.NoEscape", "internal/bytealg.Compare"], apart := false, narrowed := true }
def BitsOrderUptoSaid : Prop := bitsOrderUptoRow.holds Try.pinned (OpenSpec.upto bitsOrderSpec)

/-- 'parchmentlaw02.BitsStand', WHERE WHAT IT READS IS OF BULK AT MOST 1048576: true; the input reads as it did. -/
def bitsStandUptoRow : OpenClaim := { program := "ytafcphnafgfgkaa", sum := "e3df0853562d1f26389eced27e84fbef33af8be31c2a1ba94abac93d56e4f84c", func := "parchment/parchmentlaw02.BitsStand", spec := "bitsStand", inPlace := ["internal/abi.NoEscape", "internal/bytealg.Compare"], apart := false, narrowed := true }
def BitsStandUptoSaid : Prop := bitsStandUptoRow.holds Try.pinned (OpenSpec.upto bitsStandSpec)

/-- 'parchmentlaw02.BitsKeep', WHERE WHAT IT READS IS OF BULK AT MOST 1048576: true; the input reads as it did. -/
def bitsKeepUptoRow : OpenClaim := { program := "ytafcphnafgfgkaa", sum := "e3df0853562d1f26389eced27e84fbef33af8be31c2a1ba94abac93d56e4f84c", func := "parchment/parchmentlaw02.BitsKeep", spec := "bitsKeep", inPlace := ["internal/abi.NoEscape", "internal/bytealg.Compare"], apart := false, narrowed := true }
def BitsKeepUptoSaid : Prop := bitsKeepUptoRow.holds Try.pinned (OpenSpec.upto bitsKeepSpec)

end Rows
end Go.Proofs.Ytafcphnafgfgkaa
