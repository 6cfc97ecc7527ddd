/- value.Call at functions of texts: upper-case, lower-case. -/
import Derived.Test.YtmhnndgnnpondaaGreatDoorD02
import Derived.Shelf.Abstract
namespace Go.Proofs.YtmhnndgnnpondaaGreatDoor
open Go.RowKit
end Go.Proofs.YtmhnndgnnpondaaGreatDoor
