/- A run that is remembered: B2. -/
import Derived.Test.YthinojebkapgpaaGreatDoorAf
namespace Go.Ai
open Go.Proofs Go.Proofs.YthinojebkapgpaaGreatDoor Go.RowKit
set_option maxRecDepth 100000
noncomputable def lB2 : List (Nat × AO) := (0, .cells 1 [.i .i64 (.ofNat 1), .i .i64 (.ofNat 2)]) :: []
noncomputable def rB2 : List (Nat × AO) := (0, .cells 1 [.i .i64 (.ofNat 1), .i .i64 (.ofNat 2)]) :: (4147, .mp [(.i .i64 (.ofNat 1), .p 4267 0, 0), (.i .i64 (.ofNat 0), .p 4397 0, 1)] 2) :: (4148, .cells 1 [.p 3442 0, .p 4134 0, .i .i64 (.ofNat 2), .i .i64 (.ofNat 310), .i .i64 (.ofNat 8), .sl 4391 0 2 2 true, .i .i64 (.ofNat 0), .m 4147]) :: (4195, .cells 1 [.p 3442 0, .p 4134 0, .p 4148 0, .b false, .i .i64 (.ofNat 1), .i .i64 (.ofNat 101), .sn, .i .i64 (.ofNat 144), .i .i64 (.ofNat 312)]) :: (4396, .bytes 512 1534970654835) :: (4397, .cells 1 [.i .i64 (.ofNat 0), .sl 4396 0 512 512 true, .i .i64 (.ofNat 0), .b true, .b true, .i .i64 (.ofNat 46), .i .i64 (.ofNat 46)]) :: (4691, .cells 1 [.p 4195 0, .p 4689 0, .p 4690 0]) :: []
noncomputable def SB2 : Sums := sumsOf (listS 4 10)
theorem runB2 : chk ((fns Tryz.prog 4 10 SB2 3000).ca 11 [] (hpOf lB2 3440)) (.tu [.p 4691 0, .b true]) rB2 4692 = true := by kernel_rfl
noncomputable def gB2 : List AV → Heap → Option (AV × Heap) := memo [] lB2 3440 (.tu [.p 4691 0, .b true]) rB2 4692
theorem SB2_ok {env : Nat → Value} {n : Int} (he : env 0 = .int .i64 n) : SumsOK Tryz.prog env 10 4 SB2 := by
  refine sumsOf_ok _ fun p hp => ?_
  exact listS_ok he p hp
theorem gB2_ok {env : Nat → Value} {n : Int} (he : env 0 = .int .i64 n) : SumIs Tryz.prog env 10 4 11 gB2 := memo_ok (fns_ok namesOK (by kernel_rfl) (SB2_ok he) 3000).ca runB2
end Go.Ai
