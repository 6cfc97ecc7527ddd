/- A run that is remembered: WN. -/
import Derived.Test.YtfjjoaihhafenaaGreatDoorAg
import Derived.Test.YtfjjoaihhafenaaGreatDoorCAW
namespace Go.Ai
open Go.Proofs Go.Proofs.YtfjjoaihhafenaaGreatDoor Go.RowKit
set_option maxRecDepth 100000
noncomputable def lWN : List (Nat × AO) := (0, .cells 1 [.i .i64 (.ofNat 1), .i .i64 (.ofNat 2)]) :: (1, .cells 1 [.b false, .b false, .b false, .b false, .b false, .b false, .b false, .b false, .b false, .b false, .b false, .b false, .b true, .b false, .b false, .b true, .b true, .b true, .b true, .b true, .b false, .b false, .b false, .b true, .b false, .b true, .b true, .b true, .b false, .b true, .b false, .b true, .b false, .b true, .b true, .b true, .b true, .b true, .b false, .b true, .b true, .b true]) :: (4, .cells 1 [.i .i32 (.ofNat 65), .i .i32 (.ofNat 90), .i .i32 (.ofNat 95), .i .i32 (.ofNat 95), .i .i32 (.ofNat 97), .i .i32 (.ofNat 122), .i .i32 (.ofNat 192), .i .i32 (.ofNat 214), .i .i32 (.ofNat 216), .i .i32 (.ofNat 246), .i .i32 (.ofNat 248), .i .i32 (.ofNat 767), .i .i32 (.ofNat 880), .i .i32 (.ofNat 893), .i .i32 (.ofNat 895), .i .i32 (.ofNat 8191), .i .i32 (.ofNat 8204), .i .i32 (.ofNat 8205), .i .i32 (.ofNat 8304), .i .i32 (.ofNat 8591), .i .i32 (.ofNat 11264), .i .i32 (.ofNat 12271), .i .i32 (.ofNat 12289), .i .i32 (.ofNat 55295), .i .i32 (.ofNat 63744), .i .i32 (.ofNat 64975), .i .i32 (.ofNat 65008), .i .i32 (.ofNat 65533), .i .i32 (.ofNat 65536), .i .i32 (.ofNat 983039)]) :: []
noncomputable def rWN : List (Nat × AO) := []
noncomputable def SWN : Sums := sumsOf ((4, gAW) :: listW 10 20)
theorem runWN : chk ((fns Tryz.prog 10 20 SWN 3000).ca 3 [.q 0, .q 1] (hpOf lWN 20)) (.b true) rWN 6693 = true := by kernel_rfl
noncomputable def gWN : List AV → Heap → Option (AV × Heap) := memo [.q 0, .q 1] lWN 20 (.b true) rWN 6693
theorem SWN_ok {env : Nat → Value}  : SumsOK Tryz.prog env 20 10 SWN := by
  refine sumsOf_ok _ fun p hp => ?_
  simp only [List.mem_cons] at hp
  rcases hp with rfl | hp
  · exact gAW_ok
  · exact listW_ok p hp
theorem gWN_ok {env : Nat → Value}  : SumIs Tryz.prog env 20 10 3 gWN := memo_ok (fns_ok namesOK (by kernel_rfl) SWN_ok 3000).ca runWN
end Go.Ai
