/- value.Call: 'substring' of 'motor', 2, 3. -/
import Derived.Test.YtmnmnnocgimcpaaGreatDoorWs
import Derived.Test.YtmnmnnocgimcpaaGreatDoorWk
namespace Go.Proofs.YtmnmnnocgimcpaaGreatDoor
open Go.RowKit
set_option maxRecDepth 100000 in
set_option maxHeartbeats 4000000 in
theorem ofItems_sub (a c g1 g2 g3 c1 c2 c3 : Nat) (w : World) (hr : Rd w (some ⟨a, 0, none⟩) [.slice (some ⟨g1, 0, none⟩) 1 c1, .slice (some ⟨g2, 0, none⟩) 1 c2, .slice (some ⟨g3, 0, none⟩) 1 c3])
    (h1 : RdI w (some ⟨g1, 0, none⟩) [⟨3, 0, motorS, 0⟩]) (h2 : RdI w (some ⟨g2, 0, none⟩) [⟨2, 2, ⟨#[]⟩, 0⟩]) (h3 : RdI w (some ⟨g3, 0, none⟩) [⟨2, 3, ⟨#[]⟩, 0⟩]) :
    Calls Tryz.prog 28 #[.string ⟨#[115, 117, 98, 115, 116, 114, 105, 110, 103]⟩, .slice (some ⟨a, 0, none⟩) 3 c] w fun e w' =>
      ∃ g, e = .returned (.tuple #[.slice (some ⟨g, 0, none⟩) 1 1, .int .i64 0, .bool true]) ∧ w.heap.size ≤ g ∧ RdI w' (some ⟨g, 0, none⟩) [⟨3, 0, ⟨#[111, 116, 111]⟩, 0⟩] ∧ Below w.heap.size w w' := by
  have i0 := ix_row0 a c
  have a0 : w.cell? ⟨a, 0, none⟩ = some (.slice (some ⟨g1, 0, none⟩) 1 c1) := by
    obtain ⟨b, off, e, hx⟩ := hr.cellAt 0 _ rfl
    injection e with e; injection e with e1 e2; subst e1 e2; exact hx
  have H1 := hide h1
  have H2 := hide h2
  have H3 := hide h3
  have Hr := hide hr
  clear h1 h2 h3 hr
  go_enter Tryz.func28, Tryz.ntmps28
  go_wp2_with fail
  refine (substring_motor a c g1 g2 g3 c1 c2 c3 _ Hr.out H1.out H2.out H3.out).mono ?_
  rintro e w1 ⟨g, rfl, hg, hr, hb1⟩
  have Hi := hide hr
  have Hg := hide hg
  clear hg hr a0
  go_wp2
  go_ret3
  exact ⟨g, rfl, Hg.out, Hi.out, hb1⟩
set_option maxRecDepth 100000 in
set_option maxHeartbeats 4000000 in
theorem call_sub (m : Int) (a c g1 g2 g3 c1 c2 c3 : Nat) (w : World) (hm : w.cell? ⟨1, 0, none⟩ = some (.int .i64 m)) (hc : Counts w) (hr : Rd w (some ⟨a, 0, none⟩) [.slice (some ⟨g1, 0, none⟩) 1 c1, .slice (some ⟨g2, 0, none⟩) 1 c2, .slice (some ⟨g3, 0, none⟩) 1 c3])
    (h1 : RdI w (some ⟨g1, 0, none⟩) [⟨3, 0, motorS, 0⟩]) (h2 : RdI w (some ⟨g2, 0, none⟩) [⟨2, 2, ⟨#[]⟩, 0⟩]) (h3 : RdI w (some ⟨g3, 0, none⟩) [⟨2, 3, ⟨#[]⟩, 0⟩]) :
    Calls Tryz.prog 8 #[.string ⟨#[115, 117, 98, 115, 116, 114, 105, 110, 103]⟩, .slice (some ⟨a, 0, none⟩) 3 c] w fun e w' =>
      ∃ g, e = .returned (.tuple #[.slice (some ⟨g, 0, none⟩) 1 1, .int .i64 0]) ∧ w.heap.size ≤ g ∧ RdI w' (some ⟨g, 0, none⟩) [⟨3, 0, ⟨#[111, 116, 111]⟩, 0⟩] ∧ Below w.heap.size w w' := by
  have hok : OkLs w [⟨some ⟨g1, 0, none⟩, [⟨3, 0, motorS, 0⟩], c1⟩, ⟨some ⟨g2, 0, none⟩, [⟨2, 2, ⟨#[]⟩, 0⟩], c2⟩, ⟨some ⟨g3, 0, none⟩, [⟨2, 3, ⟨#[]⟩, 0⟩], c3⟩] := by
    intro x hx
    simp only [List.mem_cons, List.not_mem_nil, or_false] at hx
    rcases hx with rfl | rfl | rfl
    · exact ⟨h1, good_one (.str motorS ascii_motor (by decide)), by simp⟩
    · exact ⟨h2, good_one (.int 2), by simp⟩
    · exact ⟨h3, good_one (.int 3), by simp⟩
  have Hok := hide hok
  have Hm := hide hm
  have Hc := hide hc
  have H1 := hide h1
  have H2 := hide h2
  have H3 := hide h3
  have Hr := hide hr
  clear h1 h2 h3 hr hm hc hok
  go_enter Tryz.func8, Tryz.ntmps8
  go_wp2_with fail
  refine (right_ok (some ⟨a, 0, none⟩) 3 c _ _ rfl (by decide) Hr.out Hok.out).mono ?_
  rintro e w1 ⟨rfl, hb1⟩
  go_wp2_with fail
  refine (known_sub m _ (cell_keep hb1 Hm.out) (Hc.out.keep hb1)).mono ?_
  rintro e w2 ⟨rfl, hb2⟩
  have hB2 := chain0 hb1 hb2
  clear hb2
  go_wp2_with fail
  refine (ofItems_sub a c g1 g2 g3 c1 c2 c3 _ (Hr.out.keep hB2) (H1.out.keep hB2) (H2.out.keep hB2) (H3.out.keep hB2)).mono ?_
  rintro e w3 ⟨g, rfl, hg, hr, hb3⟩
  have hB3 := chain0 hB2 hb3
  have Hi := hide hr
  have Hg := hide (Nat.le_trans hB2.size hg)
  clear hg hr hb3
  go_wp2
  go_ret2
  exact ⟨g, rfl, Hg.out, Hi.out, hB3⟩
end Go.Proofs.YtmnmnnocgimcpaaGreatDoor
