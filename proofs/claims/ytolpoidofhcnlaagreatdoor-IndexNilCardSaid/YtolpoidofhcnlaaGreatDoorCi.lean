/- A run that is remembered: A5. -/
import Derived.Test.YtolpoidofhcnlaaGreatDoorAg
namespace Go.Ai
open Go.Proofs Go.Proofs.YtolpoidofhcnlaaGreatDoor Go.RowKit
set_option maxRecDepth 100000
noncomputable def lA5 : List (Nat × AO) := (5103, .mp [(.i .i64 (.ofNat 1), .p 5223 0, 0), (.i .i64 (.ofNat 0), .p 5353 0, 1), (.i .i64 (.ofNat 2), .p 5492 0, 2), (.i .i64 (.ofNat 3), .p 5886 0, 3)] 4) :: (5104, .cells 1 [.p 5022 0, .p 5090 0, .i .i64 (.ofNat 2), .i .i64 (.ofNat 460), .i .i64 (.ofNat 8), .sl 5880 0 4 4 true, .i .i64 (.ofNat 0), .m 5103]) :: (5151, .cells 1 [.p 5022 0, .p 5090 0, .p 5104 0, .b true, .i .i64 (.ofNat 406), .i .i64 (.ofNat 0), .sn, .i .i64 (.ofNat 35), .i .i64 (.ofNat 462)]) :: (5352, .bytes 512 17126972315129974564269263379201557292124303475) :: (5353, .cells 1 [.i .i64 (.ofNat 0), .sl 5352 0 512 512 true, .i .i64 (.ofNat 0), .b true, .b true, .i .i64 (.ofNat 46), .i .i64 (.ofNat 326)]) :: (6570, .cells 1 [.p 5151 0, .p 6568 0, .p 6578 0]) :: (6579, .bytes 1 192) :: (6581, .cells 1 [.sl 6579 0 1 1 false, .i .u8 (.ofNat 3), .s 1 120, .s 1 49]) :: []
noncomputable def rA5 : List (Nat × AO) := (5103, .mp [(.i .i64 (.ofNat 1), .p 5223 0, 0), (.i .i64 (.ofNat 0), .p 5353 0, 1), (.i .i64 (.ofNat 2), .p 5492 0, 2), (.i .i64 (.ofNat 3), .p 5886 0, 3)] 4) :: (5104, .cells 1 [.p 5022 0, .p 5090 0, .i .i64 (.ofNat 2), .i .i64 (.ofNat 460), .i .i64 (.ofNat 8), .sl 5880 0 4 4 true, .i .i64 (.ofNat 0), .m 5103]) :: (5151, .cells 1 [.p 5022 0, .p 5090 0, .p 5104 0, .b true, .i .i64 (.ofNat 406), .i .i64 (.ofNat 0), .sn, .i .i64 (.ofNat 35), .i .i64 (.ofNat 462)]) :: (5352, .bytes 512 17126972315129974564269263379201557292124303475) :: (5353, .cells 1 [.i .i64 (.ofNat 0), .sl 5352 0 512 512 true, .i .i64 (.ofNat 0), .b true, .b true, .i .i64 (.ofNat 46), .i .i64 (.ofNat 326)]) :: (6570, .cells 1 [.p 5151 0, .p 6568 0, .p 6578 0]) :: (6579, .bytes 1 192) :: (6581, .cells 1 [.sl 6579 0 1 1 false, .i .u8 (.ofNat 3), .s 1 120, .s 1 49]) :: []
noncomputable def SA5 : Sums := sumsOf (listT 4 10)
theorem runA5 : chk ((fns Tryz.prog 4 10 SA5 3000).ca 10 [.p 5151 0, .ag [.sl 6579 0 1 1 false, .i .u8 (.ofNat 3), .s 1 120, .s 1 49]] (hpOf lA5 6618)) (.i .i64 (.ofNat 4)) rA5 6667 = true := by kernel_rfl
noncomputable def gA5 : List AV → Heap → Option (AV × Heap) := memo [.p 5151 0, .ag [.sl 6579 0 1 1 false, .i .u8 (.ofNat 3), .s 1 120, .s 1 49]] lA5 6618 (.i .i64 (.ofNat 4)) rA5 6667
theorem SA5_ok {env : Nat → Value}  : SumsOK Tryz.prog env 10 4 SA5 := by
  refine sumsOf_ok _ fun p hp => ?_
  exact listT_ok p hp
theorem gA5_ok {env : Nat → Value}  : SumIs Tryz.prog env 10 4 10 gA5 := memo_ok (fns_ok namesOK (by kernel_rfl) SA5_ok 3000).ca runA5
end Go.Ai
/- A run that is remembered: R4. -/
namespace Go.Ai
open Go.Proofs Go.Proofs.YtolpoidofhcnlaaGreatDoor Go.RowKit
set_option maxRecDepth 100000
noncomputable def lR4 : List (Nat × AO) := (5103, .mp [(.i .i64 (.ofNat 1), .p 5223 0, 0), (.i .i64 (.ofNat 0), .p 5353 0, 1), (.i .i64 (.ofNat 2), .p 5492 0, 2), (.i .i64 (.ofNat 3), .p 5886 0, 3)] 4) :: (5104, .cells 1 [.p 5022 0, .p 5090 0, .i .i64 (.ofNat 2), .i .i64 (.ofNat 460), .i .i64 (.ofNat 8), .sl 5880 0 4 4 true, .i .i64 (.ofNat 0), .m 5103]) :: (5151, .cells 1 [.p 5022 0, .p 5090 0, .p 5104 0, .b true, .i .i64 (.ofNat 406), .i .i64 (.ofNat 0), .sn, .i .i64 (.ofNat 35), .i .i64 (.ofNat 462)]) :: (5352, .bytes 512 17126972315129974564269263379201557292124303475) :: (5353, .cells 1 [.i .i64 (.ofNat 0), .sl 5352 0 512 512 true, .i .i64 (.ofNat 0), .b true, .b true, .i .i64 (.ofNat 46), .i .i64 (.ofNat 326)]) :: (6570, .cells 1 [.p 5151 0, .p 6568 0, .p 6578 0]) :: (6579, .bytes 1 192) :: []
noncomputable def rR4 : List (Nat × AO) := (5104, .cells 1 [.p 5022 0, .p 5090 0, .i .i64 (.ofNat 2), .i .i64 (.ofNat 460), .i .i64 (.ofNat 8), .sl 5880 0 4 4 true, .i .i64 (.ofNat 0), .m 5103]) :: (5151, .cells 1 [.p 5022 0, .p 5090 0, .p 5104 0, .b true, .i .i64 (.ofNat 406), .i .i64 (.ofNat 0), .sn, .i .i64 (.ofNat 35), .i .i64 (.ofNat 462)]) :: (6570, .cells 1 [.p 5151 0, .p 6568 0, .p 6578 0]) :: []
noncomputable def SR4 : Sums := sumsOf (listT 4 10)
theorem runR4 : chk ((fns Tryz.prog 4 10 SR4 3000).ca 11 [.p 5151 0, .ag [.sl 6579 0 1 1 false, .i .u8 (.ofNat 3), .s 1 120, .s 1 49]] (hpOf lR4 6667)) (.i .i64 (.ofNat 4)) rR4 6716 = true := by kernel_rfl
noncomputable def gR4 : List AV → Heap → Option (AV × Heap) := memo [.p 5151 0, .ag [.sl 6579 0 1 1 false, .i .u8 (.ofNat 3), .s 1 120, .s 1 49]] lR4 6667 (.i .i64 (.ofNat 4)) rR4 6716
theorem SR4_ok {env : Nat → Value}  : SumsOK Tryz.prog env 10 4 SR4 := by
  refine sumsOf_ok _ fun p hp => ?_
  exact listT_ok p hp
theorem gR4_ok {env : Nat → Value}  : SumIs Tryz.prog env 10 4 11 gR4 := memo_ok (fns_ok namesOK (by kernel_rfl) SR4_ok 3000).ca runR4
end Go.Ai
