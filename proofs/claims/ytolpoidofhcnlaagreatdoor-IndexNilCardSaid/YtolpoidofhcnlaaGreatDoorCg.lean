/- A run that is remembered: K2. -/
import Derived.Test.YtolpoidofhcnlaaGreatDoorAg
namespace Go.Ai
open Go.Proofs Go.Proofs.YtolpoidofhcnlaaGreatDoor Go.RowKit
set_option maxRecDepth 100000
noncomputable def lK2 : List (Nat × AO) := (0, .cells 1 [.i .i64 (.ofNat 1), .i .i64 (.ofNat 2)]) :: (10, .cells 1 [.q 0, .q 1, .q 2, .q 3]) :: []
noncomputable def rK2 : List (Nat × AO) := (0, .cells 1 [.i .i64 (.ofNat 1), .i .i64 (.ofNat 2)]) :: (10, .cells 1 [.q 0, .q 1, .q 2, .q 3]) :: (5020, .pm 512 924 (.n (.n .e (some 32171839917356713706104227537376774515395427892872772137868946069642172976464) .e) (some 2224869329212452169217054847167689738726490258679560261283200115746842627408) .e)) :: (5021, .pm 512 0 .e) :: (5022, .cells 1 [.i .i64 (.ofNat 924), .m 5020, .m 5021, .i .i64 (.ofNat 0), .b false]) :: (5090, .cells 1 [.p 5022 0, .i .i64 (.ofNat 462), .i .i64 (.ofNat 462), .i .i64 (.ofNat 2), .i .i64 (.ofNat 1), .i .i64 (.ofNat 1), .i .i64 (.ofNat 1), .sn, .sn, .i .i64 (.ofNat 1)]) :: (5103, .mp [] 0) :: (5104, .cells 1 [.p 5022 0, .p 5090 0, .i .i64 (.ofNat 2), .i .i64 (.ofNat 460), .i .i64 (.ofNat 8), .sn, .i .i64 (.ofNat 0), .m 5103]) :: (5151, .cells 1 [.p 5022 0, .p 5090 0, .p 5104 0, .b false, .i .i64 (.ofNat 0), .i .i64 (.ofNat 0), .sn, .i .i64 (.ofNat 0), .i .i64 (.ofNat 462)]) :: []
noncomputable def SK2 : Sums := sumsOf (listT 4 10)
theorem runK2 : chk ((fns Tryz.prog 4 10 SK2 3000).ca 35 [.i .i64 (.ofNat 900), .i .i64 (.ofNat 900)] (hpOf lK2 5020)) (.p 5151 0) rK2 5215 = true := by kernel_rfl
noncomputable def gK2 : List AV → Heap → Option (AV × Heap) := memo [.i .i64 (.ofNat 900), .i .i64 (.ofNat 900)] lK2 5020 (.p 5151 0) rK2 5215
theorem SK2_ok {env : Nat → Value}  : SumsOK Tryz.prog env 10 4 SK2 := by
  refine sumsOf_ok _ fun p hp => ?_
  exact listT_ok p hp
theorem gK2_ok {env : Nat → Value}  : SumIs Tryz.prog env 10 4 35 gK2 := memo_ok (fns_ok namesOK (by kernel_rfl) SK2_ok 3000).ca runK2
end Go.Ai
/- A run that is remembered: F2. -/
namespace Go.Ai
open Go.Proofs Go.Proofs.YtolpoidofhcnlaaGreatDoor Go.RowKit
set_option maxRecDepth 100000
noncomputable def lF2 : List (Nat × AO) := (0, .cells 1 [.i .i64 (.ofNat 1), .i .i64 (.ofNat 2)]) :: (10, .cells 1 [.q 0, .q 1, .q 2, .q 3]) :: (5020, .pm 512 924 (.n (.n .e (some 32171839917356713706104227537376774515395427892872772137868946069642172976464) .e) (some 2224869329212452169217054847167689738726490258679560261283200115746842627408) .e)) :: (5021, .pm 512 0 .e) :: (5022, .cells 1 [.i .i64 (.ofNat 924), .m 5020, .m 5021, .i .i64 (.ofNat 0), .b false]) :: (5090, .cells 1 [.p 5022 0, .i .i64 (.ofNat 462), .i .i64 (.ofNat 462), .i .i64 (.ofNat 2), .i .i64 (.ofNat 1), .i .i64 (.ofNat 101), .i .i64 (.ofNat 1), .sl 5470 0 2 2 true, .sl 5468 0 100 100 true, .i .i64 (.ofNat 1)]) :: (5103, .mp [(.i .i64 (.ofNat 1), .p 5223 0, 0), (.i .i64 (.ofNat 0), .p 5353 0, 1)] 2) :: (5104, .cells 1 [.p 5022 0, .p 5090 0, .i .i64 (.ofNat 2), .i .i64 (.ofNat 460), .i .i64 (.ofNat 8), .sl 5347 0 2 2 true, .i .i64 (.ofNat 0), .m 5103]) :: (5151, .cells 1 [.p 5022 0, .p 5090 0, .p 5104 0, .b true, .i .i64 (.ofNat 1), .i .i64 (.ofNat 46), .sl 5473 0 2 2 true, .i .i64 (.ofNat 144), .i .i64 (.ofNat 462)]) :: (5222, .bytes 512 3) :: (5223, .cells 1 [.i .i64 (.ofNat 1), .sl 5222 0 512 512 true, .i .i64 (.ofNat 0), .b true, .b true, .i .i64 (.ofNat 1), .i .i64 (.ofNat 1)]) :: (5347, .cells 1 [.p 5223 0, .p 5353 0]) :: (5352, .bytes 512 1534970654835) :: (5353, .cells 1 [.i .i64 (.ofNat 0), .sl 5352 0 512 512 true, .i .i64 (.ofNat 0), .b true, .b true, .i .i64 (.ofNat 46), .i .i64 (.ofNat 46)]) :: (5468, .bytes 100 36362758068573061613775094510140136329681029184748739135313558748025350328706394068997849691566215649948678496883318862144463583485195795517268114806173182275329166200281965519944002344738638241594008517539646671532955106022369035882070016) :: (5470, .cells 1 [.i .i64 (.ofNat 1), .i .i64 (.ofNat 46)]) :: (5473, .cells 1 [.i .i64 (.ofNat 1), .i .i64 (.ofNat 46)]) :: []
noncomputable def rF2 : List (Nat × AO) := (10, .cells 1 [.q 0, .q 1, .q 2, .q 3]) :: (5020, .pm 512 924 (.n (.n .e (some 32171839917356713706104227537376774515395427892872772137868946069642172976464) .e) (some 2224869329212452169217054847167689738726490258679560261283200115746842627408) .e)) :: (5021, .pm 512 0 .e) :: (5022, .cells 1 [.i .i64 (.ofNat 924), .m 5020, .m 5021, .i .i64 (.ofNat 0), .b false]) :: (5090, .cells 1 [.p 5022 0, .i .i64 (.ofNat 462), .i .i64 (.ofNat 462), .i .i64 (.ofNat 2), .i .i64 (.ofNat 1), .i .i64 (.ofNat 371), .i .i64 (.ofNat 1), .sl 6258 0 8 8 true, .sl 6256 0 370 370 true, .i .i64 (.ofNat 1)]) :: (5103, .mp [(.i .i64 (.ofNat 1), .p 5223 0, 0), (.i .i64 (.ofNat 0), .p 5353 0, 1), (.i .i64 (.ofNat 2), .p 5492 0, 2), (.i .i64 (.ofNat 3), .p 5886 0, 3)] 4) :: (5104, .cells 1 [.p 5022 0, .p 5090 0, .i .i64 (.ofNat 2), .i .i64 (.ofNat 460), .i .i64 (.ofNat 8), .sl 5880 0 4 4 true, .i .i64 (.ofNat 0), .m 5103]) :: (5151, .cells 1 [.p 5022 0, .p 5090 0, .p 5104 0, .b true, .i .i64 (.ofNat 1), .i .i64 (.ofNat 326), .sl 6261 0 8 8 true, .i .i64 (.ofNat 456), .i .i64 (.ofNat 462)]) :: (5352, .bytes 512 17126972315129974564269263379201557292124303475) :: (5353, .cells 1 [.i .i64 (.ofNat 0), .sl 5352 0 512 512 true, .i .i64 (.ofNat 0), .b true, .b true, .i .i64 (.ofNat 46), .i .i64 (.ofNat 326)]) :: (6256, .bytes 370 13112052044217491642991777647414732134375000236722995612640828620105285520374185503195916639613162799795010493375403794693055951624594290641100683806406084599275315854754200252244250286588982677019399743051928102930801856004562321829160213508302667860104895759221045265884194976832727802139613047177529307949491811499225713969304637677983078024019349838576388087782398020650012523123474618467443894714283948267765597962392611156909687924785651694423426681365028868274659144407597517634005777263742532537807662077704789409269633237660016007376528308714932417318136336386636617501019442117378087046497384847367315286377218917170613565578438862089396347237702545554478283018686534750562019509988351981294173613723274526575444807761173157485632173540227238007720782338980438582578234619991513162274792183578143708668580333497433470912626383327436419731101655085695309903590221023078150907625472) :: (6258, .cells 1 [.i .i64 (.ofNat 1), .i .i64 (.ofNat 46), .i .i64 (.ofNat 101), .i .i64 (.ofNat 146), .i .i64 (.ofNat 191), .i .i64 (.ofNat 236), .i .i64 (.ofNat 281), .i .i64 (.ofNat 326)]) :: []
noncomputable def SF2 : Sums := sumsOf (listT 4 10)
theorem runF2 : chk ((fns Tryz.prog 4 10 SF2 3000).ca 38 [.p 5151 0] (hpOf lF2 5475)) (.i .i64 (.ofNat 0)) rF2 6263 = true := by kernel_rfl
noncomputable def gF2 : List AV → Heap → Option (AV × Heap) := memo [.p 5151 0] lF2 5475 (.i .i64 (.ofNat 0)) rF2 6263
theorem SF2_ok {env : Nat → Value}  : SumsOK Tryz.prog env 10 4 SF2 := by
  refine sumsOf_ok _ fun p hp => ?_
  exact listT_ok p hp
theorem gF2_ok {env : Nat → Value}  : SumIs Tryz.prog env 10 4 38 gF2 := memo_ok (fns_ok namesOK (by kernel_rfl) SF2_ok 3000).ca runF2
end Go.Ai
/- A run that is remembered: B2. -/
namespace Go.Ai
open Go.Proofs Go.Proofs.YtolpoidofhcnlaaGreatDoor Go.RowKit
set_option maxRecDepth 100000
noncomputable def lB2 : List (Nat × AO) := (0, .cells 1 [.i .i64 (.ofNat 1), .i .i64 (.ofNat 2)]) :: (10, .cells 1 [.q 0, .q 1, .q 2, .q 3]) :: []
noncomputable def rB2 : List (Nat × AO) := (10, .cells 1 [.q 0, .q 1, .q 2, .q 3]) :: (5090, .cells 1 [.p 5022 0, .i .i64 (.ofNat 462), .i .i64 (.ofNat 462), .i .i64 (.ofNat 2), .i .i64 (.ofNat 1), .i .i64 (.ofNat 406), .i .i64 (.ofNat 406), .sl 6344 0 9 9 true, .sl 6567 0 48 48 true, .i .i64 (.ofNat 358)]) :: (5103, .mp [(.i .i64 (.ofNat 1), .p 5223 0, 0), (.i .i64 (.ofNat 0), .p 5353 0, 1), (.i .i64 (.ofNat 2), .p 5492 0, 2), (.i .i64 (.ofNat 3), .p 5886 0, 3)] 4) :: (5104, .cells 1 [.p 5022 0, .p 5090 0, .i .i64 (.ofNat 2), .i .i64 (.ofNat 460), .i .i64 (.ofNat 8), .sl 5880 0 4 4 true, .i .i64 (.ofNat 0), .m 5103]) :: (5151, .cells 1 [.p 5022 0, .p 5090 0, .p 5104 0, .b false, .i .i64 (.ofNat 1), .i .i64 (.ofNat 371), .sn, .i .i64 (.ofNat 456), .i .i64 (.ofNat 462)]) :: (5352, .bytes 512 17126972315129974564269263379201557292124303475) :: (5353, .cells 1 [.i .i64 (.ofNat 0), .sl 5352 0 512 512 true, .i .i64 (.ofNat 0), .b true, .b true, .i .i64 (.ofNat 46), .i .i64 (.ofNat 326)]) :: (6568, .cells 1 [.b false, .b false, .sn]) :: (6570, .cells 1 [.p 5151 0, .p 6568 0, .p 6569 0]) :: []
noncomputable def SB2 : Sums := sumsOf ((35, gK2) :: (38, gF2) :: listT 4 10)
theorem runB2 : chk ((fns Tryz.prog 4 10 SB2 3000).ca 12 [] (hpOf lB2 5020)) (.tu [.p 6570 0, .b true]) rB2 6571 = true := by kernel_rfl
noncomputable def gB2 : List AV → Heap → Option (AV × Heap) := memo [] lB2 5020 (.tu [.p 6570 0, .b true]) rB2 6571
theorem SB2_ok {env : Nat → Value}  : SumsOK Tryz.prog env 10 4 SB2 := by
  refine sumsOf_ok _ fun p hp => ?_
  simp only [List.mem_cons] at hp
  rcases hp with rfl | rfl | hp
  · exact gK2_ok
  · exact gF2_ok
  · exact listT_ok p hp
theorem gB2_ok {env : Nat → Value}  : SumIs Tryz.prog env 10 4 12 gB2 := memo_ok (fns_ok namesOK (by kernel_rfl) SB2_ok 3000).ca runB2
end Go.Ai
