/- A run that is remembered: CN. -/
import Derived.Test.YtcbllanmnalomaaGreatDoorAg
import Derived.Test.YtcbllanmnalomaaGreatDoorCAW
import Derived.Test.YtcbllanmnalomaaGreatDoorCB2
namespace Go.Ai
open Go.Proofs Go.Proofs.YtcbllanmnalomaaGreatDoor Go.RowKit
set_option maxRecDepth 100000
noncomputable def lCN : List (Nat × AO) := []
noncomputable def rCN : List (Nat × AO) := []
noncomputable def SCN : Sums := sumsOf ((4, gAW) :: (16, gB2) :: listS 3 10)
theorem runCN : chk ((fns Tryz.prog 3 10 SCN 3000).ca 3 [.q 0] (hpOf lCN 10)) (.b true) rCN 3296 = true := by kernel_rfl
noncomputable def gCN : List AV → Heap → Option (AV × Heap) := memo [.q 0] lCN 10 (.b true) rCN 3296
theorem SCN_ok {env : Nat → Value} {n : Int} (he : env 0 = .int .i64 n) : SumsOK Tryz.prog env 10 3 SCN := by
  refine sumsOf_ok _ fun p hp => ?_
  simp only [List.mem_cons] at hp
  rcases hp with rfl | rfl | hp
  · exact gAW_ok he
  · exact gB2_ok he
  · exact listS_ok he p hp
theorem gCN_ok {env : Nat → Value} {n : Int} (he : env 0 = .int .i64 n) : SumIs Tryz.prog env 10 3 3 gCN := memo_ok (fns_ok namesOK (by kernel_rfl) (SCN_ok he) 3000).ca runCN
end Go.Ai
