/- value.holds. -/
import Derived.Test.YtmnmnnocgimcpaaGreatDoorVa
namespace Go.Proofs.YtmnmnnocgimcpaaGreatDoor
open Go.RowKit
set_option maxRecDepth 100000 in
set_option maxHeartbeats 1000000 in
theorem holds_eq (n : Int) (q : Bool) (w : World) (hq : (n == 0) = q) : Calls Tryz.prog 62 #[.string ⟨#[61]⟩, .int .i64 n] w fun e w' => e = .returned (.tuple #[.bool q, .bool true]) ∧ w = w' := by
  go_enter Tryz.func62, Tryz.ntmps62
  go_wp2
  go_ret2
  exact ⟨rfl, rfl⟩
set_option maxRecDepth 100000 in
set_option maxHeartbeats 1000000 in
theorem holds_lt (n : Int) (q : Bool) (w : World) (hq : decide (n < 0) = q) : Calls Tryz.prog 62 #[.string ⟨#[60]⟩, .int .i64 n] w fun e w' => e = .returned (.tuple #[.bool q, .bool true]) ∧ w = w' := by
  go_enter Tryz.func62, Tryz.ntmps62
  go_wp2
  go_ret2
  exact ⟨rfl, rfl⟩
end Go.Proofs.YtmnmnnocgimcpaaGreatDoor
