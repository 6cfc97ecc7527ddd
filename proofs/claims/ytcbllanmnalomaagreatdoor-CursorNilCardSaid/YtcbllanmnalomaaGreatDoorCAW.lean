/- A run that is remembered: AW. -/
import Derived.Test.YtcbllanmnalomaaGreatDoorAg
import Derived.Test.YtcbllanmnalomaaGreatDoorCB1
namespace Go.Ai
open Go.Proofs Go.Proofs.YtcbllanmnalomaaGreatDoor Go.RowKit
set_option maxRecDepth 100000
noncomputable def lAW : List (Nat × AO) := []
noncomputable def rAW : List (Nat × AO) := []
noncomputable def SAW : Sums := sumsOf ((16, gB1) :: listS 3 10)
theorem runAW : chk ((fns Tryz.prog 3 10 SAW 3000).ca 4 [] (hpOf lAW 10)) (.b true) rAW 1750 = true := by kernel_rfl
noncomputable def gAW : List AV → Heap → Option (AV × Heap) := memo [] lAW 10 (.b true) rAW 1750
theorem SAW_ok {env : Nat → Value} {n : Int} (he : env 0 = .int .i64 n) : SumsOK Tryz.prog env 10 3 SAW := by
  refine sumsOf_ok _ fun p hp => ?_
  simp only [List.mem_cons] at hp
  rcases hp with rfl | hp
  · exact gB1_ok he
  · exact listS_ok he p hp
theorem gAW_ok {env : Nat → Value} {n : Int} (he : env 0 = .int .i64 n) : SumIs Tryz.prog env 10 3 4 gAW := memo_ok (fns_ok namesOK (by kernel_rfl) (SAW_ok he) 3000).ca runAW
end Go.Ai
