/- A run that is remembered: B1. -/
import Derived.Test.YtcbllanmnalomaaGreatDoorAg
import Derived.Test.YtcbllanmnalomaaGreatDoorCK1
namespace Go.Ai
open Go.Proofs Go.Proofs.YtcbllanmnalomaaGreatDoor Go.RowKit
set_option maxRecDepth 100000
noncomputable def lB1 : List (Nat × AO) := (10, .bytes 1 98) :: (11, .bytes 1 100) :: (12, .bytes 1 97) :: (13, .cells 3 [.i .i64 (.ofNat 0), .sl 10 0 1 1 false, .sn, .i .i64 (.ofNat 0), .sl 11 0 1 1 false, .sn, .i .i64 (.ofNat 0), .sl 12 0 1 1 false, .sn]) :: []
noncomputable def rB1 : List (Nat × AO) := (97, .mp [(.i .i64 (.ofNat 1), .p 217 0, 0), (.i .i64 (.ofNat 0), .p 347 0, 1), (.i .i64 (.ofNat 2), .p 486 0, 2)] 3) :: (98, .cells 1 [.p 16 0, .p 84 0, .i .i64 (.ofNat 2), .i .i64 (.ofNat 2010), .i .i64 (.ofNat 8), .sl 480 0 3 3 true, .i .i64 (.ofNat 0), .m 97]) :: (145, .cells 1 [.p 16 0, .p 84 0, .p 98 0, .b true, .i .i64 (.ofNat 1), .i .i64 (.ofNat 346), .sl 1332 0 8 8 true, .i .i64 (.ofNat 482), .i .i64 (.ofNat 2012)]) :: (485, .bytes 512 8711571535986693161706084880746997532852993) :: (486, .cells 1 [.i .i64 (.ofNat 2), .sl 485 0 512 512 true, .i .i64 (.ofNat 0), .b true, .b true, .i .i64 (.ofNat 146), .i .i64 (.ofNat 346)]) :: (739, .cells 1 [.p 145 0, .i .i64 (.ofNat 2), .p 738 0]) :: []
noncomputable def SB1 : Sums := sumsOf ((25, gK1) :: listS 3 10)
theorem runB1 : chk ((fns Tryz.prog 3 10 SB1 3000).ca 16 [.sl 13 0 3 3 false] (hpOf lB1 14)) (.tu [.p 739 0, .b true]) rB1 1334 = true := by kernel_rfl
noncomputable def gB1 : List AV → Heap → Option (AV × Heap) := memo [.sl 13 0 3 3 false] lB1 14 (.tu [.p 739 0, .b true]) rB1 1334
theorem SB1_ok {env : Nat → Value} {n : Int} (he : env 0 = .int .i64 n) : SumsOK Tryz.prog env 10 3 SB1 := by
  refine sumsOf_ok _ fun p hp => ?_
  simp only [List.mem_cons] at hp
  rcases hp with rfl | hp
  · exact gK1_ok he
  · exact listS_ok he p hp
theorem gB1_ok {env : Nat → Value} {n : Int} (he : env 0 = .int .i64 n) : SumIs Tryz.prog env 10 3 16 gB1 := memo_ok (fns_ok namesOK (by kernel_rfl) (SB1_ok he) 3000).ca runB1
end Go.Ai
