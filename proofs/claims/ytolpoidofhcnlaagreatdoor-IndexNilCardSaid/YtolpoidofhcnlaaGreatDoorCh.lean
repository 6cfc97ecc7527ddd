/- A run that is remembered: N6. -/
import Derived.Test.YtolpoidofhcnlaaGreatDoorAg
namespace Go.Ai
open Go.Proofs Go.Proofs.YtolpoidofhcnlaaGreatDoor Go.RowKit
set_option maxRecDepth 100000
noncomputable def lN6 : List (Nat × AO) := (5103, .mp [(.i .i64 (.ofNat 1), .p 5223 0, 0), (.i .i64 (.ofNat 0), .p 5353 0, 1), (.i .i64 (.ofNat 2), .p 5492 0, 2), (.i .i64 (.ofNat 3), .p 5886 0, 3)] 4) :: (5104, .cells 1 [.p 5022 0, .p 5090 0, .i .i64 (.ofNat 2), .i .i64 (.ofNat 460), .i .i64 (.ofNat 8), .sl 5880 0 4 4 true, .i .i64 (.ofNat 0), .m 5103]) :: (5151, .cells 1 [.p 5022 0, .p 5090 0, .p 5104 0, .b true, .i .i64 (.ofNat 406), .i .i64 (.ofNat 0), .sn, .i .i64 (.ofNat 35), .i .i64 (.ofNat 462)]) :: (5352, .bytes 512 17126972315129974564269263379201557292124303475) :: (5353, .cells 1 [.i .i64 (.ofNat 0), .sl 5352 0 512 512 true, .i .i64 (.ofNat 0), .b true, .b true, .i .i64 (.ofNat 46), .i .i64 (.ofNat 326)]) :: (6570, .cells 1 [.p 5151 0, .p 6568 0, .p 6578 0]) :: (6579, .bytes 1 192) :: (6581, .cells 1 [.sl 6579 0 1 1 false, .i .u8 (.ofNat 3), .s 1 120, .s 1 49]) :: []
noncomputable def rN6 : List (Nat × AO) := (5103, .mp [(.i .i64 (.ofNat 1), .p 5223 0, 0), (.i .i64 (.ofNat 0), .p 5353 0, 1), (.i .i64 (.ofNat 2), .p 5492 0, 2), (.i .i64 (.ofNat 3), .p 5886 0, 3)] 4) :: (5104, .cells 1 [.p 5022 0, .p 5090 0, .i .i64 (.ofNat 2), .i .i64 (.ofNat 460), .i .i64 (.ofNat 8), .sl 5880 0 4 4 true, .i .i64 (.ofNat 0), .m 5103]) :: (5151, .cells 1 [.p 5022 0, .p 5090 0, .p 5104 0, .b true, .i .i64 (.ofNat 406), .i .i64 (.ofNat 0), .sn, .i .i64 (.ofNat 35), .i .i64 (.ofNat 462)]) :: (5352, .bytes 512 17126972315129974564269263379201557292124303475) :: (5353, .cells 1 [.i .i64 (.ofNat 0), .sl 5352 0 512 512 true, .i .i64 (.ofNat 0), .b true, .b true, .i .i64 (.ofNat 46), .i .i64 (.ofNat 326)]) :: (6570, .cells 1 [.p 5151 0, .p 6568 0, .p 6578 0]) :: (6579, .bytes 1 192) :: (6581, .cells 1 [.sl 6579 0 1 1 false, .i .u8 (.ofNat 3), .s 1 120, .s 1 49]) :: []
noncomputable def SN6 : Sums := sumsOf (listT 4 10)
theorem runN6 : chk ((fns Tryz.prog 4 10 SN6 3000).ca 6 [.p 5151 0, .i .u8 (.ofNat 3), .s 1 120, .sn] (hpOf lN6 6582)) (.tu [.sn, .i .i64 (.ofNat 4)]) rN6 6592 = true := by kernel_rfl
noncomputable def gN6 : List AV → Heap → Option (AV × Heap) := memo [.p 5151 0, .i .u8 (.ofNat 3), .s 1 120, .sn] lN6 6582 (.tu [.sn, .i .i64 (.ofNat 4)]) rN6 6592
theorem SN6_ok {env : Nat → Value}  : SumsOK Tryz.prog env 10 4 SN6 := by
  refine sumsOf_ok _ fun p hp => ?_
  exact listT_ok p hp
theorem gN6_ok {env : Nat → Value}  : SumIs Tryz.prog env 10 4 6 gN6 := memo_ok (fns_ok namesOK (by kernel_rfl) SN6_ok 3000).ca runN6
end Go.Ai
/- A run that is remembered: V4. -/
namespace Go.Ai
open Go.Proofs Go.Proofs.YtolpoidofhcnlaaGreatDoor Go.RowKit
set_option maxRecDepth 100000
noncomputable def lV4 : List (Nat × AO) := (5103, .mp [(.i .i64 (.ofNat 1), .p 5223 0, 0), (.i .i64 (.ofNat 0), .p 5353 0, 1), (.i .i64 (.ofNat 2), .p 5492 0, 2), (.i .i64 (.ofNat 3), .p 5886 0, 3)] 4) :: (5104, .cells 1 [.p 5022 0, .p 5090 0, .i .i64 (.ofNat 2), .i .i64 (.ofNat 460), .i .i64 (.ofNat 8), .sl 5880 0 4 4 true, .i .i64 (.ofNat 0), .m 5103]) :: (5151, .cells 1 [.p 5022 0, .p 5090 0, .p 5104 0, .b true, .i .i64 (.ofNat 406), .i .i64 (.ofNat 0), .sn, .i .i64 (.ofNat 35), .i .i64 (.ofNat 462)]) :: (5352, .bytes 512 17126972315129974564269263379201557292124303475) :: (5353, .cells 1 [.i .i64 (.ofNat 0), .sl 5352 0 512 512 true, .i .i64 (.ofNat 0), .b true, .b true, .i .i64 (.ofNat 46), .i .i64 (.ofNat 326)]) :: (6570, .cells 1 [.p 5151 0, .p 6568 0, .p 6578 0]) :: (6579, .bytes 1 192) :: (6581, .cells 1 [.sl 6579 0 1 1 false, .i .u8 (.ofNat 3), .s 1 120, .s 1 49]) :: []
noncomputable def rV4 : List (Nat × AO) := (5103, .mp [(.i .i64 (.ofNat 1), .p 5223 0, 0), (.i .i64 (.ofNat 0), .p 5353 0, 1), (.i .i64 (.ofNat 2), .p 5492 0, 2), (.i .i64 (.ofNat 3), .p 5886 0, 3)] 4) :: (5104, .cells 1 [.p 5022 0, .p 5090 0, .i .i64 (.ofNat 2), .i .i64 (.ofNat 460), .i .i64 (.ofNat 8), .sl 5880 0 4 4 true, .i .i64 (.ofNat 0), .m 5103]) :: (5151, .cells 1 [.p 5022 0, .p 5090 0, .p 5104 0, .b true, .i .i64 (.ofNat 406), .i .i64 (.ofNat 0), .sn, .i .i64 (.ofNat 35), .i .i64 (.ofNat 462)]) :: (5352, .bytes 512 17126972315129974564269263379201557292124303475) :: (5353, .cells 1 [.i .i64 (.ofNat 0), .sl 5352 0 512 512 true, .i .i64 (.ofNat 0), .b true, .b true, .i .i64 (.ofNat 46), .i .i64 (.ofNat 326)]) :: (6570, .cells 1 [.p 5151 0, .p 6568 0, .p 6578 0]) :: (6579, .bytes 1 192) :: (6581, .cells 1 [.sl 6579 0 1 1 false, .i .u8 (.ofNat 3), .s 1 120, .s 1 49]) :: []
noncomputable def SV4 : Sums := sumsOf (listT 4 10)
theorem runV4 : chk ((fns Tryz.prog 4 10 SV4 3000).ca 7 [.p 5151 0, .i .u8 (.ofNat 3), .s 1 120, .s 1 49, .sn] (hpOf lV4 6592)) (.tu [.sn, .i .i64 (.ofNat 4)]) rV4 6603 = true := by kernel_rfl
noncomputable def gV4 : List AV → Heap → Option (AV × Heap) := memo [.p 5151 0, .i .u8 (.ofNat 3), .s 1 120, .s 1 49, .sn] lV4 6592 (.tu [.sn, .i .i64 (.ofNat 4)]) rV4 6603
theorem SV4_ok {env : Nat → Value}  : SumsOK Tryz.prog env 10 4 SV4 := by
  refine sumsOf_ok _ fun p hp => ?_
  exact listT_ok p hp
theorem gV4_ok {env : Nat → Value}  : SumIs Tryz.prog env 10 4 7 gV4 := memo_ok (fns_ok namesOK (by kernel_rfl) SV4_ok 3000).ca runV4
end Go.Ai
/- A run that is remembered: C3. -/
namespace Go.Ai
open Go.Proofs Go.Proofs.YtolpoidofhcnlaaGreatDoor Go.RowKit
set_option maxRecDepth 100000
noncomputable def lC3 : List (Nat × AO) := (5103, .mp [(.i .i64 (.ofNat 1), .p 5223 0, 0), (.i .i64 (.ofNat 0), .p 5353 0, 1), (.i .i64 (.ofNat 2), .p 5492 0, 2), (.i .i64 (.ofNat 3), .p 5886 0, 3)] 4) :: (5104, .cells 1 [.p 5022 0, .p 5090 0, .i .i64 (.ofNat 2), .i .i64 (.ofNat 460), .i .i64 (.ofNat 8), .sl 5880 0 4 4 true, .i .i64 (.ofNat 0), .m 5103]) :: (5151, .cells 1 [.p 5022 0, .p 5090 0, .p 5104 0, .b true, .i .i64 (.ofNat 406), .i .i64 (.ofNat 0), .sn, .i .i64 (.ofNat 35), .i .i64 (.ofNat 462)]) :: (5352, .bytes 512 17126972315129974564269263379201557292124303475) :: (5353, .cells 1 [.i .i64 (.ofNat 0), .sl 5352 0 512 512 true, .i .i64 (.ofNat 0), .b true, .b true, .i .i64 (.ofNat 46), .i .i64 (.ofNat 326)]) :: (6570, .cells 1 [.p 5151 0, .p 6568 0, .p 6578 0]) :: (6579, .bytes 1 192) :: (6581, .cells 1 [.sl 6579 0 1 1 false, .i .u8 (.ofNat 3), .s 1 120, .s 1 49]) :: []
noncomputable def rC3 : List (Nat × AO) := (5103, .mp [(.i .i64 (.ofNat 1), .p 5223 0, 0), (.i .i64 (.ofNat 0), .p 5353 0, 1), (.i .i64 (.ofNat 2), .p 5492 0, 2), (.i .i64 (.ofNat 3), .p 5886 0, 3)] 4) :: (5104, .cells 1 [.p 5022 0, .p 5090 0, .i .i64 (.ofNat 2), .i .i64 (.ofNat 460), .i .i64 (.ofNat 8), .sl 5880 0 4 4 true, .i .i64 (.ofNat 0), .m 5103]) :: (5151, .cells 1 [.p 5022 0, .p 5090 0, .p 5104 0, .b true, .i .i64 (.ofNat 406), .i .i64 (.ofNat 0), .sn, .i .i64 (.ofNat 35), .i .i64 (.ofNat 462)]) :: (5352, .bytes 512 17126972315129974564269263379201557292124303475) :: (5353, .cells 1 [.i .i64 (.ofNat 0), .sl 5352 0 512 512 true, .i .i64 (.ofNat 0), .b true, .b true, .i .i64 (.ofNat 46), .i .i64 (.ofNat 326)]) :: (6570, .cells 1 [.p 5151 0, .p 6568 0, .p 6578 0]) :: (6579, .bytes 1 192) :: (6581, .cells 1 [.sl 6579 0 1 1 false, .i .u8 (.ofNat 3), .s 1 120, .s 1 49]) :: []
noncomputable def SC3 : Sums := sumsOf (listT 4 10)
theorem runC3 : chk ((fns Tryz.prog 4 10 SC3 3000).ca 9 [.p 5151 0] (hpOf lC3 6603)) (.i .i64 (.ofNat 4)) rC3 6618 = true := by kernel_rfl
noncomputable def gC3 : List AV → Heap → Option (AV × Heap) := memo [.p 5151 0] lC3 6603 (.i .i64 (.ofNat 4)) rC3 6618
theorem SC3_ok {env : Nat → Value}  : SumsOK Tryz.prog env 10 4 SC3 := by
  refine sumsOf_ok _ fun p hp => ?_
  exact listT_ok p hp
theorem gC3_ok {env : Nat → Value}  : SumIs Tryz.prog env 10 4 9 gC3 := memo_ok (fns_ok namesOK (by kernel_rfl) SC3_ok 3000).ca runC3
end Go.Ai
