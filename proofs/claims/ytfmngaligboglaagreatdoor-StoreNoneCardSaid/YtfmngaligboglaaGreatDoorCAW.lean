/- A run that is remembered: AW. -/
import Derived.Test.YtfmngaligboglaaGreatDoorAg
import Derived.Test.YtfmngaligboglaaGreatDoorAh
import Derived.Test.YtfmngaligboglaaGreatDoorCB1
namespace Go.Ai
open Go.Proofs Go.Proofs.YtfmngaligboglaaGreatDoor Go.RowKit
set_option maxRecDepth 100000
noncomputable def lAW : List (Nat × AO) := (0, .cells 1 [.i .i64 (.ofNat 1), .i .i64 (.ofNat 2)]) :: (20, .cells 1 [.q 0, .q 1, .q 2, .q 3]) :: []
noncomputable def rAW : List (Nat × AO) := (0, .cells 1 [.i .i64 (.ofNat 1), .i .i64 (.ofNat 2)]) :: (20, .cells 1 [.q 0, .q 1, .q 2, .q 3]) :: []
noncomputable def SAW : Sums := sumsOf ((16, gB1) :: listT 10 20)
theorem runAW : chk ((fnsC Tryz.prog 10 20 1000000 SAW 3000).ca 4 [] (hpOf lAW 21)) (.b true) rAW 2022 = true := by kernel_rfl
noncomputable def gAW : List AV → Heap → Option (AV × Heap) := memo [] lAW 21 (.b true) rAW 2022
theorem SAW_ok {env : Nat → Value}  : SumsOK Tryz.prog env 20 10 SAW := by
  refine sumsOf_ok _ fun p hp => ?_
  simp only [List.mem_cons] at hp
  rcases hp with rfl | hp
  · exact gB1_ok
  · exact listT_ok p hp
theorem gAW_ok {env : Nat → Value}  : SumIs Tryz.prog env 20 10 4 gAW := memo_ok (fnsC_ok namesOK (by kernel_rfl) SAW_ok 3000).ca runAW
end Go.Ai
