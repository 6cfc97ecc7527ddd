/- A run that is remembered: NN. -/
import Derived.Test.YthinojebkapgpaaGreatDoorAf
import Derived.Test.YthinojebkapgpaaGreatDoorCAW
import Derived.Test.YthinojebkapgpaaGreatDoorCBK
import Derived.Test.YthinojebkapgpaaGreatDoorCB2
namespace Go.Ai
open Go.Proofs Go.Proofs.YthinojebkapgpaaGreatDoor Go.RowKit
set_option maxRecDepth 100000
noncomputable def lNN : List (Nat × AO) := (0, .cells 1 [.i .i64 (.ofNat 1), .i .i64 (.ofNat 2)]) :: []
noncomputable def rNN : List (Nat × AO) := []
noncomputable def SNN : Sums := sumsOf ((4, gAW) :: (9, gBK) :: (11, gB2) :: listS 4 10)
theorem runNN : chk ((fns Tryz.prog 4 10 SNN 3000).ca 3 [.q 0] (hpOf lNN 10)) (.b true) rNN 4710 = true := by kernel_rfl
noncomputable def gNN : List AV → Heap → Option (AV × Heap) := memo [.q 0] lNN 10 (.b true) rNN 4710
theorem SNN_ok {env : Nat → Value} {n : Int} (he : env 0 = .int .i64 n) : SumsOK Tryz.prog env 10 4 SNN := by
  refine sumsOf_ok _ fun p hp => ?_
  simp only [List.mem_cons] at hp
  rcases hp with rfl | rfl | rfl | hp
  · exact gAW_ok he
  · exact gBK_ok he
  · exact gB2_ok he
  · exact listS_ok he p hp
theorem gNN_ok {env : Nat → Value} {n : Int} (he : env 0 = .int .i64 n) : SumIs Tryz.prog env 10 4 3 gNN := memo_ok (fns_ok namesOK (by kernel_rfl) (SNN_ok he) 3000).ca runNN
end Go.Ai
