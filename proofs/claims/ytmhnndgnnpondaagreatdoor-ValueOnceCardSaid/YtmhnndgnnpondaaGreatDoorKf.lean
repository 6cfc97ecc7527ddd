/- value.one at any row; value.substring at any rows. -/
import Derived.Test.YtmhnndgnnpondaaGreatDoorKe4
import Derived.Test.YtmhnndgnnpondaaGreatDoorC14
import Derived.Test.YtmhnndgnnpondaaGreatDoorC13
import Derived.Test.YtmhnndgnnpondaaGreatDoorC25
namespace Go.Proofs.YtmhnndgnnpondaaGreatDoor
open Go.RowKit
theorem whN_R (s : ByteArray) : R64 (whN s) := by
 unfold whN
 split
 ·rename_i v hv
  split
  ·exact parse_R hv
  ·unfold R64; decide
 ·unfold R64; decide
theorem nV_R {x : It} (h : R64 x.num) : R64 (nV x) := by
 unfold nV
 split
 ·exact h
 ·exact whN_R _
end Go.Proofs.YtmhnndgnnpondaaGreatDoor
