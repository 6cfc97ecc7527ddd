/- A run that is remembered: K1. -/
import Derived.Test.YtcbllanmnalomaaGreatDoorAg
namespace Go.Ai
open Go.Proofs Go.Proofs.YtcbllanmnalomaaGreatDoor Go.RowKit
set_option maxRecDepth 100000
noncomputable def lK1 : List (Nat × AO) := (10, .bytes 1 98) :: (11, .bytes 1 100) :: (12, .bytes 1 97) :: (13, .cells 3 [.i .i64 (.ofNat 0), .sl 10 0 1 1 false, .sn, .i .i64 (.ofNat 0), .sl 11 0 1 1 false, .sn, .i .i64 (.ofNat 0), .sl 12 0 1 1 false, .sn]) :: []
noncomputable def rK1 : List (Nat × AO) := (10, .bytes 1 98) :: (11, .bytes 1 100) :: (12, .bytes 1 97) :: (13, .cells 3 [.i .i64 (.ofNat 0), .sl 10 0 1 1 false, .sn, .i .i64 (.ofNat 0), .sl 11 0 1 1 false, .sn, .i .i64 (.ofNat 0), .sl 12 0 1 1 false, .sn]) :: (14, .pm 512 4024 (.n (.n .e (some 32171839917356713706104227537376774515395427892872772137868946069642172976464) .e) (some 2224869329212452169217054847167689738726490258679560261283200115746842627408) .e)) :: (15, .pm 512 0 .e) :: (16, .cells 1 [.i .i64 (.ofNat 4024), .m 14, .m 15, .i .i64 (.ofNat 0), .b false]) :: (84, .cells 1 [.p 16 0, .i .i64 (.ofNat 2012), .i .i64 (.ofNat 2012), .i .i64 (.ofNat 2), .i .i64 (.ofNat 1), .i .i64 (.ofNat 1), .i .i64 (.ofNat 1), .sn, .sn, .i .i64 (.ofNat 1)]) :: (97, .mp [] 0) :: (98, .cells 1 [.p 16 0, .p 84 0, .i .i64 (.ofNat 2), .i .i64 (.ofNat 2010), .i .i64 (.ofNat 8), .sn, .i .i64 (.ofNat 0), .m 97]) :: (145, .cells 1 [.p 16 0, .p 84 0, .p 98 0, .b false, .i .i64 (.ofNat 0), .i .i64 (.ofNat 0), .sn, .i .i64 (.ofNat 0), .i .i64 (.ofNat 2012)]) :: []
noncomputable def SK1 : Sums := sumsOf (listS 3 10)
theorem runK1 : chk ((fns Tryz.prog 3 10 SK1 3000).ca 25 [.i .i64 (.ofNat 4000), .i .i64 (.ofNat 4000)] (hpOf lK1 14)) (.p 145 0) rK1 209 = true := by kernel_rfl
noncomputable def gK1 : List AV → Heap → Option (AV × Heap) := memo [.i .i64 (.ofNat 4000), .i .i64 (.ofNat 4000)] lK1 14 (.p 145 0) rK1 209
theorem SK1_ok {env : Nat → Value} {n : Int} (he : env 0 = .int .i64 n) : SumsOK Tryz.prog env 10 3 SK1 := by
  refine sumsOf_ok _ fun p hp => ?_
  exact listS_ok he p hp
theorem gK1_ok {env : Nat → Value} {n : Int} (he : env 0 = .int .i64 n) : SumIs Tryz.prog env 10 3 25 gK1 := memo_ok (fns_ok namesOK (by kernel_rfl) (SK1_ok he) 3000).ca runK1
end Go.Ai
