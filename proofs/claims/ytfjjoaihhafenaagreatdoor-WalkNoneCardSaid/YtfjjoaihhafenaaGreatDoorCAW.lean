/- A run that is remembered: AW. -/
import Derived.Test.YtfjjoaihhafenaaGreatDoorAg
import Derived.Test.YtfjjoaihhafenaaGreatDoorCB1
import Derived.Test.YtfjjoaihhafenaaGreatDoorCLD
import Derived.Test.YtfjjoaihhafenaaGreatDoorCG0
import Derived.Test.YtfjjoaihhafenaaGreatDoorCG1
import Derived.Test.YtfjjoaihhafenaaGreatDoorCTX
namespace Go.Ai
open Go.Proofs Go.Proofs.YtfjjoaihhafenaaGreatDoor Go.RowKit
set_option maxRecDepth 100000
noncomputable def lAW : List (Nat × AO) := (0, .cells 1 [.i .i64 (.ofNat 1), .i .i64 (.ofNat 2)]) :: (1, .cells 1 [.b false, .b false, .b false, .b false, .b false, .b false, .b false, .b false, .b false, .b false, .b false, .b false, .b true, .b false, .b false, .b true, .b true, .b true, .b true, .b true, .b false, .b false, .b false, .b true, .b false, .b true, .b true, .b true, .b false, .b true, .b false, .b true, .b false, .b true, .b true, .b true, .b true, .b true, .b false, .b true, .b true, .b true]) :: (4, .cells 1 [.i .i32 (.ofNat 65), .i .i32 (.ofNat 90), .i .i32 (.ofNat 95), .i .i32 (.ofNat 95), .i .i32 (.ofNat 97), .i .i32 (.ofNat 122), .i .i32 (.ofNat 192), .i .i32 (.ofNat 214), .i .i32 (.ofNat 216), .i .i32 (.ofNat 246), .i .i32 (.ofNat 248), .i .i32 (.ofNat 767), .i .i32 (.ofNat 880), .i .i32 (.ofNat 893), .i .i32 (.ofNat 895), .i .i32 (.ofNat 8191), .i .i32 (.ofNat 8204), .i .i32 (.ofNat 8205), .i .i32 (.ofNat 8304), .i .i32 (.ofNat 8591), .i .i32 (.ofNat 11264), .i .i32 (.ofNat 12271), .i .i32 (.ofNat 12289), .i .i32 (.ofNat 55295), .i .i32 (.ofNat 63744), .i .i32 (.ofNat 64975), .i .i32 (.ofNat 65008), .i .i32 (.ofNat 65533), .i .i32 (.ofNat 65536), .i .i32 (.ofNat 983039)]) :: []
noncomputable def rAW : List (Nat × AO) := []
noncomputable def SAW : Sums := sumsOf ((10, gB1) :: (11, gLD) :: (6, orS gG0 (gG1)) :: (7, gTX) :: listW 10 20)
theorem runAW : chk ((fns Tryz.prog 10 20 SAW 3000).ca 4 [] (hpOf lAW 20)) (.b true) rAW 6655 = true := by kernel_rfl
noncomputable def gAW : List AV → Heap → Option (AV × Heap) := memo [] lAW 20 (.b true) rAW 6655
theorem SAW_ok {env : Nat → Value}  : SumsOK Tryz.prog env 20 10 SAW := by
  refine sumsOf_ok _ fun p hp => ?_
  simp only [List.mem_cons] at hp
  rcases hp with rfl | rfl | rfl | rfl | hp
  · exact gB1_ok
  · exact gLD_ok
  · exact orS_ok (gG0_ok) (gG1_ok)
  · exact gTX_ok
  · exact listW_ok p hp
theorem gAW_ok {env : Nat → Value}  : SumIs Tryz.prog env 20 10 4 gAW := memo_ok (fns_ok namesOK (by kernel_rfl) SAW_ok 3000).ca runAW
end Go.Ai
