/- A run that is remembered: K2. -/
import Derived.Test.YtcbllanmnalomaaGreatDoorAg
namespace Go.Ai
open Go.Proofs Go.Proofs.YtcbllanmnalomaaGreatDoor Go.RowKit
set_option maxRecDepth 100000
noncomputable def lK2 : List (Nat × AO) := (1752, .cells 1 [.pn, .p 1750 0, .pn, .pn]) :: (1770, .bytes 1 98) :: (1771, .bytes 1 100) :: (1772, .bytes 1 97) :: (1773, .cells 3 [.i .i64 (.ofNat 0), .sl 1770 0 1 1 false, .sn, .i .i64 (.ofNat 0), .sl 1771 0 1 1 false, .sn, .i .i64 (.ofNat 0), .sl 1772 0 1 1 false, .sn]) :: []
noncomputable def rK2 : List (Nat × AO) := (1752, .cells 1 [.pn, .p 1750 0, .pn, .pn]) :: (1770, .bytes 1 98) :: (1771, .bytes 1 100) :: (1772, .bytes 1 97) :: (1773, .cells 3 [.i .i64 (.ofNat 0), .sl 1770 0 1 1 false, .sn, .i .i64 (.ofNat 0), .sl 1771 0 1 1 false, .sn, .i .i64 (.ofNat 0), .sl 1772 0 1 1 false, .sn]) :: (1774, .pm 512 4024 (.n (.n .e (some 32171839917356713706104227537376774515395427892872772137868946069642172976464) .e) (some 2224869329212452169217054847167689738726490258679560261283200115746842627408) .e)) :: (1775, .pm 512 0 .e) :: (1776, .cells 1 [.i .i64 (.ofNat 4024), .m 1774, .m 1775, .i .i64 (.ofNat 0), .b false]) :: (1844, .cells 1 [.p 1776 0, .i .i64 (.ofNat 2012), .i .i64 (.ofNat 2012), .i .i64 (.ofNat 2), .i .i64 (.ofNat 1), .i .i64 (.ofNat 1), .i .i64 (.ofNat 1), .sn, .sn, .i .i64 (.ofNat 1)]) :: (1857, .mp [] 0) :: (1858, .cells 1 [.p 1776 0, .p 1844 0, .i .i64 (.ofNat 2), .i .i64 (.ofNat 2010), .i .i64 (.ofNat 8), .sn, .i .i64 (.ofNat 0), .m 1857]) :: (1905, .cells 1 [.p 1776 0, .p 1844 0, .p 1858 0, .b false, .i .i64 (.ofNat 0), .i .i64 (.ofNat 0), .sn, .i .i64 (.ofNat 0), .i .i64 (.ofNat 2012)]) :: []
noncomputable def SK2 : Sums := sumsOf (listS 3 10)
theorem runK2 : chk ((fns Tryz.prog 3 10 SK2 3000).ca 25 [.i .i64 (.ofNat 4000), .i .i64 (.ofNat 4000)] (hpOf lK2 1774)) (.p 1905 0) rK2 1969 = true := by kernel_rfl
noncomputable def gK2 : List AV → Heap → Option (AV × Heap) := memo [.i .i64 (.ofNat 4000), .i .i64 (.ofNat 4000)] lK2 1774 (.p 1905 0) rK2 1969
theorem SK2_ok {env : Nat → Value} {n : Int} (he : env 0 = .int .i64 n) : SumsOK Tryz.prog env 10 3 SK2 := by
  refine sumsOf_ok _ fun p hp => ?_
  exact listS_ok he p hp
theorem gK2_ok {env : Nat → Value} {n : Int} (he : env 0 = .int .i64 n) : SumIs Tryz.prog env 10 3 25 gK2 := memo_ok (fns_ok namesOK (by kernel_rfl) (SK2_ok he) 3000).ca runK2
end Go.Ai
