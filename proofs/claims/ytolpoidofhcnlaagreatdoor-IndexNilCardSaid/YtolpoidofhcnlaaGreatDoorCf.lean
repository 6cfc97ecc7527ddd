/- A run that is remembered: AW. -/
import Derived.Test.YtolpoidofhcnlaaGreatDoorAg
import Derived.Test.YtolpoidofhcnlaaGreatDoorCa
import Derived.Test.YtolpoidofhcnlaaGreatDoorCb
import Derived.Test.YtolpoidofhcnlaaGreatDoorCc
import Derived.Test.YtolpoidofhcnlaaGreatDoorCd
import Derived.Test.YtolpoidofhcnlaaGreatDoorCe
namespace Go.Ai
open Go.Proofs Go.Proofs.YtolpoidofhcnlaaGreatDoor Go.RowKit
set_option maxRecDepth 100000
noncomputable def lAW : List (Nat × AO) := (0, .cells 1 [.i .i64 (.ofNat 1), .i .i64 (.ofNat 2)]) :: (10, .cells 1 [.q 0, .q 1, .q 2, .q 3]) :: []
noncomputable def rAW : List (Nat × AO) := (0, .cells 1 [.i .i64 (.ofNat 1), .i .i64 (.ofNat 2)]) :: (10, .cells 1 [.q 0, .q 1, .q 2, .q 3]) :: []
noncomputable def SAW : Sums := sumsOf ((12, gB1) :: (8, gIF) :: (10, orS gA0 (gA1)) :: (6, orS gN0 (orS gN1 (gN3))) :: (7, orS gV0 (gV1)) :: (11, gR0) :: listT 4 10)
theorem runAW : chk ((fns Tryz.prog 4 10 SAW 3000).ca 4 [] (hpOf lAW 11)) (.b true) rAW 4999 = true := by kernel_rfl
noncomputable def gAW : List AV → Heap → Option (AV × Heap) := memo [] lAW 11 (.b true) rAW 4999
theorem SAW_ok {env : Nat → Value}  : SumsOK Tryz.prog env 10 4 SAW := by
  refine sumsOf_ok _ fun p hp => ?_
  simp only [List.mem_cons] at hp
  rcases hp with rfl | rfl | rfl | rfl | rfl | rfl | hp
  · exact gB1_ok
  · exact gIF_ok
  · exact orS_ok (gA0_ok) (gA1_ok)
  · exact orS_ok (gN0_ok) (orS_ok (gN1_ok) (gN3_ok))
  · exact orS_ok (gV0_ok) (gV1_ok)
  · exact gR0_ok
  · exact listT_ok p hp
theorem gAW_ok {env : Nat → Value}  : SumIs Tryz.prog env 10 4 4 gAW := memo_ok (fns_ok namesOK (by kernel_rfl) SAW_ok 3000).ca runAW
end Go.Ai
