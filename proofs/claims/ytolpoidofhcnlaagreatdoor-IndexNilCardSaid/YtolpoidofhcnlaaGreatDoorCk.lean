/- A run that is remembered: W2. -/
import Derived.Test.YtolpoidofhcnlaaGreatDoorAg
namespace Go.Ai
open Go.Proofs Go.Proofs.YtolpoidofhcnlaaGreatDoor Go.RowKit
set_option maxRecDepth 100000
noncomputable def lW2 : List (Nat × AO) := (0, .cells 1 [.i .i64 (.ofNat 1), .i .i64 (.ofNat 2)]) :: (10, .cells 1 [.q 0, .q 1, .q 2, .q 3]) :: (5000, .cells 1 [.pn, .pn, .pn, .b false, .i .i64 (.ofNat 0), .i .i64 (.ofNat 0), .sn, .i .i64 (.ofNat 0), .i .i64 (.ofNat 0)]) :: (5001, .cells 1 [.pn, .p 5000 0]) :: []
noncomputable def rW2 : List (Nat × AO) := (0, .cells 1 [.i .i64 (.ofNat 1), .i .i64 (.ofNat 2)]) :: (10, .cells 1 [.q 0, .q 1, .q 2, .q 3]) :: (5000, .cells 1 [.pn, .pn, .pn, .b false, .i .i64 (.ofNat 0), .i .i64 (.ofNat 0), .sn, .i .i64 (.ofNat 0), .i .i64 (.ofNat 0)]) :: (5001, .cells 1 [.pn, .p 5000 0]) :: []
noncomputable def SW2 : Sums := sumsOf (listT 4 10)
theorem runW2 : upto (fun k => chk ((fns Tryz.prog 4 10 SW2 3000).ca 7 [.pn, .i .u8 (.ofNat k), .q 2, .q 3, .q 0] (hpOf lW2 5003)) (.tu [.sn, .i .i64 (.ofNat 1)]) rW2 5005) 256 = true := by kernel_rfl
noncomputable def gW2 : List AV → Heap → Option (AV × Heap) := memo [.pn, .q 1, .q 2, .q 3, .q 0] lW2 5003 (.tu [.sn, .i .i64 (.ofNat 1)]) rW2 5005
theorem SW2_ok {env : Nat → Value} : SumsOK Tryz.prog env 10 4 SW2 := sumsOf_ok _ listT_ok
theorem gW2_ok {env : Nat → Value} {k : Nat} (hk : k < 256) (he : env 1 = .int .u8 (k : Int)) : SumIs Tryz.prog env 10 4 7 gW2 :=
  memoK_ok (fns_ok namesOK (by kernel_rfl) SW2_ok 3000).ca (fun ρ us h => by simp only [VRs, VR, he] at h ⊢; exact h) (upto_ok runW2 k hk)
end Go.Ai
/- A run that is remembered: W3. -/
namespace Go.Ai
open Go.Proofs Go.Proofs.YtolpoidofhcnlaaGreatDoor Go.RowKit
set_option maxRecDepth 100000
noncomputable def lW3 : List (Nat × AO) := (0, .cells 1 [.i .i64 (.ofNat 1), .i .i64 (.ofNat 2)]) :: (10, .cells 1 [.q 0, .q 1, .q 2, .q 3]) :: (5000, .cells 1 [.pn, .pn, .pn, .b false, .i .i64 (.ofNat 0), .i .i64 (.ofNat 0), .sn, .i .i64 (.ofNat 0), .i .i64 (.ofNat 0)]) :: []
noncomputable def rW3 : List (Nat × AO) := (0, .cells 1 [.i .i64 (.ofNat 1), .i .i64 (.ofNat 2)]) :: (10, .cells 1 [.q 0, .q 1, .q 2, .q 3]) :: (5000, .cells 1 [.pn, .pn, .pn, .b false, .i .i64 (.ofNat 0), .i .i64 (.ofNat 0), .sn, .i .i64 (.ofNat 0), .i .i64 (.ofNat 0)]) :: []
noncomputable def SW3 : Sums := sumsOf (listT 4 10)
theorem runW3 : upto (fun k => chk ((fns Tryz.prog 4 10 SW3 3000).ca 7 [.p 5000 0, .i .u8 (.ofNat k), .q 2, .q 3, .q 0] (hpOf lW3 5012)) (.tu [.sn, .i .i64 (.ofNat 1)]) rW3 5014) 256 = true := by kernel_rfl
noncomputable def gW3 : List AV → Heap → Option (AV × Heap) := memo [.p 5000 0, .q 1, .q 2, .q 3, .q 0] lW3 5012 (.tu [.sn, .i .i64 (.ofNat 1)]) rW3 5014
theorem SW3_ok {env : Nat → Value} : SumsOK Tryz.prog env 10 4 SW3 := sumsOf_ok _ listT_ok
theorem gW3_ok {env : Nat → Value} {k : Nat} (hk : k < 256) (he : env 1 = .int .u8 (k : Int)) : SumIs Tryz.prog env 10 4 7 gW3 :=
  memoK_ok (fns_ok namesOK (by kernel_rfl) SW3_ok 3000).ca (fun ρ us h => by simp only [VRs, VR, he] at h ⊢; exact h) (upto_ok runW3 k hk)
end Go.Ai
