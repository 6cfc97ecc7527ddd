/- (*device.Device).may, crash at a device that is up; Sync. -/
import Derived.Test.YtobdajealbhjmaaGreatDoorRows
import Derived.Test.YtobdajealbhjmaaGreatDoorMem
import Derived.Maps.RangeRun
namespace Go.Proofs.YtobdajealbhjmaaGreatDoor
open Go.RowKit
set_option maxHeartbeats 400000 in
theorem may_up (d n i : Nat) (w : World) (hi : i < n) (h0 : w.cell? ⟨d, 0, none⟩ = some (.int .i64 n)) (h4 : w.cell? ⟨d, 4, none⟩ = some (.bool false)) :
    Calls Tryz.prog 132 #[.pointer (some ⟨d, 0, none⟩), .int .i64 i] w fun e w' => e = .returned (.int .i64 0) ∧ w' = w := by
  have hn : ((n : Int) == 0) = false := by simp; omega
  have h1 : decide ((i : Int) < 0) = false := by simp
  have h2 : decide (n ≤ i) = false := by simp; omega
  go_enter Tryz.func132, Tryz.ntmps132
  go_wp2
  go_ret
  exact ⟨rfl, rfl⟩
set_option maxHeartbeats 400000 in
theorem crash_up (d : Nat) (w : World) (h3 : w.cell? ⟨d, 3, none⟩ = some (.int .i64 0)) (h4 : w.cell? ⟨d, 4, none⟩ = some (.bool false)) :
    Calls Tryz.prog 135 #[.pointer (some ⟨d, 0, none⟩)] w fun e w' => e = .returned (.bool false) ∧ w' = w := by
  go_enter Tryz.func135, Tryz.ntmps135
  go_wp2
  go_ret
  exact ⟨rfl, rfl⟩
end Go.Proofs.YtobdajealbhjmaaGreatDoor
