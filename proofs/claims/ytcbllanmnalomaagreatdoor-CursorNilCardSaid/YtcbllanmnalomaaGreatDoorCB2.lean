/- A run that is remembered: B2. -/
import Derived.Test.YtcbllanmnalomaaGreatDoorAg
import Derived.Test.YtcbllanmnalomaaGreatDoorCK2
namespace Go.Ai
open Go.Proofs Go.Proofs.YtcbllanmnalomaaGreatDoor Go.RowKit
set_option maxRecDepth 100000
noncomputable def lB2 : List (Nat × AO) := (1752, .cells 1 [.pn, .p 1750 0, .pn, .pn]) :: (1770, .bytes 1 98) :: (1771, .bytes 1 100) :: (1772, .bytes 1 97) :: (1773, .cells 3 [.i .i64 (.ofNat 0), .sl 1770 0 1 1 false, .sn, .i .i64 (.ofNat 0), .sl 1771 0 1 1 false, .sn, .i .i64 (.ofNat 0), .sl 1772 0 1 1 false, .sn]) :: []
noncomputable def rB2 : List (Nat × AO) := (1752, .cells 1 [.pn, .p 1750 0, .pn, .pn]) :: (1774, .pm 512 4024 (.n (.n .e (some 32171839917356713706104227537376774515395427892872772137868946069642172976464) .e) (some 2224869329212452169217054847167689738726490258679560261283200115746842627408) .e)) :: (1775, .pm 512 0 .e) :: (1776, .cells 1 [.i .i64 (.ofNat 4024), .m 1774, .m 1775, .i .i64 (.ofNat 0), .b false]) :: (1857, .mp [(.i .i64 (.ofNat 1), .p 1977 0, 0), (.i .i64 (.ofNat 0), .p 2107 0, 1), (.i .i64 (.ofNat 2), .p 2246 0, 2)] 3) :: (1858, .cells 1 [.p 1776 0, .p 1844 0, .i .i64 (.ofNat 2), .i .i64 (.ofNat 2010), .i .i64 (.ofNat 8), .sl 2240 0 3 3 true, .i .i64 (.ofNat 0), .m 1857]) :: (1905, .cells 1 [.p 1776 0, .p 1844 0, .p 1858 0, .b true, .i .i64 (.ofNat 1), .i .i64 (.ofNat 346), .sl 3092 0 8 8 true, .i .i64 (.ofNat 482), .i .i64 (.ofNat 2012)]) :: (1976, .bytes 512 7) :: (1977, .cells 1 [.i .i64 (.ofNat 1), .sl 1976 0 512 512 true, .i .i64 (.ofNat 0), .b true, .b true, .i .i64 (.ofNat 1), .i .i64 (.ofNat 101)]) :: (2106, .bytes 512 1534970654835) :: (2107, .cells 1 [.i .i64 (.ofNat 0), .sl 2106 0 512 512 true, .i .i64 (.ofNat 0), .b true, .b true, .i .i64 (.ofNat 46), .i .i64 (.ofNat 46)]) :: (2240, .cells 1 [.p 1977 0, .p 2107 0, .p 2246 0]) :: (2499, .cells 1 [.p 1905 0, .i .i64 (.ofNat 2), .p 2498 0]) :: []
noncomputable def SB2 : Sums := sumsOf ((25, gK2) :: listS 3 10)
theorem runB2 : chk ((fns Tryz.prog 3 10 SB2 3000).ca 16 [.sl 1773 0 3 3 false] (hpOf lB2 1774)) (.tu [.p 2499 0, .b true]) rB2 3094 = true := by kernel_rfl
noncomputable def gB2 : List AV → Heap → Option (AV × Heap) := memo [.sl 1773 0 3 3 false] lB2 1774 (.tu [.p 2499 0, .b true]) rB2 3094
theorem SB2_ok {env : Nat → Value} {n : Int} (he : env 0 = .int .i64 n) : SumsOK Tryz.prog env 10 3 SB2 := by
  refine sumsOf_ok _ fun p hp => ?_
  simp only [List.mem_cons] at hp
  rcases hp with rfl | hp
  · exact gK2_ok he
  · exact listS_ok he p hp
theorem gB2_ok {env : Nat → Value} {n : Int} (he : env 0 = .int .i64 n) : SumIs Tryz.prog env 10 3 16 gB2 := memo_ok (fns_ok namesOK (by kernel_rfl) (SB2_ok he) 3000).ca runB2
end Go.Ai
