/- SameItems at two rows of one item; is. -/
import Derived.Test.YtmnmnnocgimcpaaGreatDoorVn
namespace Go.Proofs.YtmnmnnocgimcpaaGreatDoor
open Go.RowKit
set_option maxRecDepth 100000 in
set_option maxHeartbeats 4000000 in
theorem same_one (g1 g2 c1 c2 k : Nat) (a d : Int) (t : ByteArray) (w : World) (h1 : RdI w (some ⟨g1, 0, none⟩) [⟨k, a, t, d⟩]) (h2 : RdI w (some ⟨g2, 0, none⟩) [⟨k, a, t, d⟩]) :
    Calls Tryz.prog 12 #[.slice (some ⟨g1, 0, none⟩) 1 c1, .slice (some ⟨g2, 0, none⟩) 1 c2] w fun e w' => e = .returned (.bool true) ∧ Below w.heap.size w w' := by
  have i10 := ix_item0 g1 1 c1 (by decide)
  have i20 := ix_item0 g2 1 c2 (by decide)
  obtain ⟨a_0, a_1, a_2, a_3⟩ := h1.z0 _ rfl
  obtain ⟨b_0, b_1, b_2, b_3⟩ := h2.z0 _ rfl
  have A_0 : w.drew.cell? ⟨g1, 0, none⟩ = some (.int .u8 k) := a_0
  have A_1 : w.drew.cell? ⟨g1, 1, none⟩ = some (.int .i64 a) := a_1
  have A_2 : w.drew.cell? ⟨g1, 2, none⟩ = some (.string t) := a_2
  have A_3 : w.drew.cell? ⟨g1, 3, none⟩ = some (.int .i64 d) := a_3
  have B_0 : w.drew.cell? ⟨g2, 0, none⟩ = some (.int .u8 k) := b_0
  have B_1 : w.drew.cell? ⟨g2, 1, none⟩ = some (.int .i64 a) := b_1
  have B_2 : w.drew.cell? ⟨g2, 2, none⟩ = some (.string t) := b_2
  have B_3 : w.drew.cell? ⟨g2, 3, none⟩ = some (.int .i64 d) := b_3
  clear h1 h2 a_0 a_1 a_2 a_3 b_0 b_1 b_2 b_3
  go_enter Tryz.func12, Tryz.ntmps12
  go_wp2_with fail
  refine wp_loop_rounds 3 ?_
  rw [rounds_succ]
  go_wp2_with fail
  go_region
  go_wp2_with fail
  rw [rounds_succ]
  go_wp2
  go_ret
  exact ⟨rfl, Below.drew (Below.refl _ _)⟩
end Go.Proofs.YtmnmnnocgimcpaaGreatDoor
