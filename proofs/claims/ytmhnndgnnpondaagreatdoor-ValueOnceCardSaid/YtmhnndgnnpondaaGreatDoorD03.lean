/- value.Call at substring. value.ofItems, value.Call at count, empty, exists, not, boolean. -/
import Derived.Test.YtmhnndgnnpondaaGreatDoorKf
namespace Go.Proofs.YtmhnndgnnpondaaGreatDoor
open Go.RowKit
end Go.Proofs.YtmhnndgnnpondaaGreatDoor
namespace Go.Proofs.YtmhnndgnnpondaaGreatDoor
open Go.RowKit
def one1 (f : List It → List It × Int) : List Lst → List It × Int
 | [a] => f a.l
 | _ => ([], 0)
def callO (nm : List UInt8) (f : List It → List It × Int) (ls : List Lst) : List It × Int := if rightL ls = true then (if knV nm ls.length = true then one1 f ls else ([], 241)) else ([], 2)
theorem len_1 {α : Type} {l : List α} (h : l.length = 1) : ∃ a, l = [a] := List.length_eq_one_iff.1 h
end Go.Proofs.YtmhnndgnnpondaaGreatDoor
