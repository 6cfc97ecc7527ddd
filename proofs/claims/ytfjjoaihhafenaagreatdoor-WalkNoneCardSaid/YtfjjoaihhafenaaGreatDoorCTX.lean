/- A run that is remembered: TX. -/
import Derived.Test.YtfjjoaihhafenaaGreatDoorAg
namespace Go.Ai
open Go.Proofs Go.Proofs.YtfjjoaihhafenaaGreatDoor Go.RowKit
set_option maxRecDepth 100000
noncomputable def lTX : List (Nat × AO) := (0, .cells 1 [.i .i64 (.ofNat 1), .i .i64 (.ofNat 2)]) :: (103, .mp [(.i .i64 (.ofNat 1), .p 223 0, 0), (.i .i64 (.ofNat 0), .p 353 0, 1), (.i .i64 (.ofNat 2), .p 492 0, 2), (.i .i64 (.ofNat 3), .p 886 0, 3), (.i .i64 (.ofNat 4), .p 1280 0, 4)] 5) :: (104, .cells 1 [.p 22 0, .p 90 0, .i .i64 (.ofNat 2), .i .i64 (.ofNat 1498), .i .i64 (.ofNat 32), .sl 1274 0 5 5 true, .i .i64 (.ofNat 0), .m 103]) :: (151, .cells 1 [.p 22 0, .p 90 0, .p 104 0, .b true, .i .i64 (.ofNat 1), .i .i64 (.ofNat 1384), .sl 4663 0 28 28 true, .i .i64 (.ofNat 1585), .i .i64 (.ofNat 1500)]) :: (352, .bytes 512 1809251394333065553493296640777875532522473484964903076495726307415766954099) :: (353, .cells 1 [.i .i64 (.ofNat 0), .sl 352 0 512 512 true, .i .i64 (.ofNat 0), .b true, .b true, .i .i64 (.ofNat 46), .i .i64 (.ofNat 461)]) :: (885, .bytes 512 828263481508201955819662272266932707858667232221629730827202359052993025) :: (886, .cells 1 [.i .i64 (.ofNat 3), .sl 885 0 512 512 true, .i .i64 (.ofNat 0), .b true, .b true, .i .i64 (.ofNat 281), .i .i64 (.ofNat 1164)]) :: (1279, .bytes 512 299540985858081440836763407793200815560216279145371297654791558347911690468300471461248686347767878390267771910374071206913) :: (1280, .cells 1 [.i .i64 (.ofNat 4), .sl 1279 0 512 512 true, .i .i64 (.ofNat 0), .b true, .b true, .i .i64 (.ofNat 416), .i .i64 (.ofNat 1384)]) :: (5386, .cells 4 [.sl 5235 0 1 1 true, .i .u8 (.ofNat 4), .s 0 0, .s 1 116]) :: (5900, .cells 4 [.sl 5721 0 1 1 true, .i .u8 (.ofNat 3), .s 1 120, .s 1 49]) :: []
noncomputable def rTX : List (Nat × AO) := (5386, .cells 4 [.sl 5235 0 1 1 true, .i .u8 (.ofNat 4), .s 0 0, .s 1 116]) :: (5900, .cells 4 [.sl 5721 0 1 1 true, .i .u8 (.ofNat 3), .s 1 120, .s 1 49]) :: []
noncomputable def STX : Sums := sumsOf (listW 10 20)
theorem runTX : chk ((fns Tryz.prog 10 20 STX 3000).ca 7 [.p 151 0, .sn] (hpOf lTX 6190)) (.tu [.s 1 116, .i .i64 (.ofNat 0)]) rTX 6655 = true := by kernel_rfl
noncomputable def gTX : List AV → Heap → Option (AV × Heap) := memo [.p 151 0, .sn] lTX 6190 (.tu [.s 1 116, .i .i64 (.ofNat 0)]) rTX 6655
theorem STX_ok {env : Nat → Value}  : SumsOK Tryz.prog env 20 10 STX := by
  refine sumsOf_ok _ fun p hp => ?_
  exact listW_ok p hp
theorem gTX_ok {env : Nat → Value}  : SumIs Tryz.prog env 20 10 7 gTX := memo_ok (fns_ok namesOK (by kernel_rfl) STX_ok 3000).ca runTX
end Go.Ai
