/- A run that is remembered: AW. -/
import Derived.Test.YthinojebkapgpaaGreatDoorAf
import Derived.Test.YthinojebkapgpaaGreatDoorCB1
import Derived.Test.YthinojebkapgpaaGreatDoorCP1
import Derived.Test.YthinojebkapgpaaGreatDoorCP2
import Derived.Test.YthinojebkapgpaaGreatDoorCP3
namespace Go.Ai
open Go.Proofs Go.Proofs.YthinojebkapgpaaGreatDoor Go.RowKit
set_option maxRecDepth 100000
noncomputable def lAW : List (Nat × AO) := (0, .cells 1 [.i .i64 (.ofNat 1), .i .i64 (.ofNat 2)]) :: []
noncomputable def rAW : List (Nat × AO) := (0, .cells 1 [.i .i64 (.ofNat 1), .i .i64 (.ofNat 2)]) :: []
noncomputable def SAW : Sums := sumsOf ((11, gB1) :: (34, orS gP1 (orS gP2 (gP3))) :: listS 4 10)
theorem runAW : chk ((fns Tryz.prog 4 10 SAW 3000).ca 4 [] (hpOf lAW 10)) (.b true) rAW 3098 = true := by kernel_rfl
noncomputable def gAW : List AV → Heap → Option (AV × Heap) := memo [] lAW 10 (.b true) rAW 3098
theorem SAW_ok {env : Nat → Value} {n : Int} (he : env 0 = .int .i64 n) : SumsOK Tryz.prog env 10 4 SAW := by
  refine sumsOf_ok _ fun p hp => ?_
  simp only [List.mem_cons] at hp
  rcases hp with rfl | rfl | hp
  · exact gB1_ok he
  · exact orS_ok (gP1_ok he) (orS_ok (gP2_ok he) (gP3_ok he))
  · exact listS_ok he p hp
theorem gAW_ok {env : Nat → Value} {n : Int} (he : env 0 = .int .i64 n) : SumIs Tryz.prog env 10 4 4 gAW := memo_ok (fns_ok namesOK (by kernel_rfl) (SAW_ok he) 3000).ca runAW
end Go.Ai
