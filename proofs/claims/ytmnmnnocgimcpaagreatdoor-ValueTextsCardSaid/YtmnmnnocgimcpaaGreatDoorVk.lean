/- value.Truth at what awake asks. -/
import Derived.Test.YtmnmnnocgimcpaaGreatDoorVj
namespace Go.Proofs.YtmnmnnocgimcpaaGreatDoor
open Go.RowKit
def xTr : List It := [⟨1, 0, ⟨#[]⟩, 0⟩, ⟨2, 1, ⟨#[]⟩, 0⟩]
set_option maxRecDepth 100000 in
set_option maxHeartbeats 4000000 in
theorem truth_node (g1 c1 : Nat) (w : World) (h1 : RdI w (some ⟨g1, 0, none⟩) xTr) :
    Calls Tryz.prog 23 #[.slice (some ⟨g1, 0, none⟩) 2 c1] w fun e w' => e = .returned (.tuple #[.bool true, .int .i64 0]) ∧ Below w.heap.size w w' := by
  have k1 : ∀ y ∈ xTr, Good y := by
    intro y hy
    simp only [xTr, List.mem_cons, List.not_mem_nil, or_false] at hy
    rcases hy with rfl | rfl
    · exact .node ⟨#[]⟩ 0 ascii_nil zero_le8
    · exact .int 1
  have H1 := hide h1
  clear h1
  have i10 := ix_item0 g1 2 c1 (by decide)
  go_enter Tryz.func23, Tryz.ntmps23
  go_wp2_with fail
  refine (right_one g1 c1 xTr w H1.out k1 (by decide) 2 rfl).mono ?_
  rintro e w1 ⟨rfl, hb1⟩
  obtain ⟨a_0, a_1, a_2, a_3⟩ := (H1.out.keep hb1).z0 _ rfl
  go_wp2
  go_ret2
  exact ⟨rfl, hb1⟩
end Go.Proofs.YtmnmnnocgimcpaaGreatDoor
