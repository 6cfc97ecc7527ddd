/- A run that is remembered: M4. -/
import Derived.Test.YtolpoidofhcnlaaGreatDoorAg
namespace Go.Ai
open Go.Proofs Go.Proofs.YtolpoidofhcnlaaGreatDoor Go.RowKit
set_option maxRecDepth 100000
noncomputable def lM4 : List (Nat × AO) := (0, .cells 1 [.i .i64 (.ofNat 1), .i .i64 (.ofNat 2)]) :: (10, .cells 1 [.q 0, .q 1, .q 2, .q 3]) :: (5000, .cells 1 [.pn, .pn, .pn, .b false, .i .i64 (.ofNat 0), .i .i64 (.ofNat 0), .sn, .i .i64 (.ofNat 0), .i .i64 (.ofNat 0)]) :: (5001, .cells 1 [.pn, .p 5000 0]) :: []
noncomputable def rM4 : List (Nat × AO) := (0, .cells 1 [.i .i64 (.ofNat 1), .i .i64 (.ofNat 2)]) :: (10, .cells 1 [.q 0, .q 1, .q 2, .q 3]) :: (5000, .cells 1 [.pn, .pn, .pn, .b false, .i .i64 (.ofNat 0), .i .i64 (.ofNat 0), .sn, .i .i64 (.ofNat 0), .i .i64 (.ofNat 0)]) :: (5001, .cells 1 [.pn, .p 5000 0]) :: []
noncomputable def SM4 : Sums := sumsOf (listT 4 10)
theorem runM4 : upto (fun k => chk ((fns Tryz.prog 4 10 SM4 3000).ca 6 [.pn, .i .u8 (.ofNat k), .q 2, .q 0] (hpOf lM4 5002)) (.tu [.sn, .i .i64 (.ofNat 1)]) rM4 5003) 256 = true := by kernel_rfl
noncomputable def gM4 : List AV → Heap → Option (AV × Heap) := memo [.pn, .q 1, .q 2, .q 0] lM4 5002 (.tu [.sn, .i .i64 (.ofNat 1)]) rM4 5003
theorem SM4_ok {env : Nat → Value} : SumsOK Tryz.prog env 10 4 SM4 := sumsOf_ok _ listT_ok
theorem gM4_ok {env : Nat → Value} {k : Nat} (hk : k < 256) (he : env 1 = .int .u8 (k : Int)) : SumIs Tryz.prog env 10 4 6 gM4 :=
  memoK_ok (fns_ok namesOK (by kernel_rfl) SM4_ok 3000).ca (fun ρ us h => by simp only [VRs, VR, he] at h ⊢; exact h) (upto_ok runM4 k hk)
end Go.Ai
/- A run that is remembered: M5. -/
namespace Go.Ai
open Go.Proofs Go.Proofs.YtolpoidofhcnlaaGreatDoor Go.RowKit
set_option maxRecDepth 100000
noncomputable def lM5 : List (Nat × AO) := (0, .cells 1 [.i .i64 (.ofNat 1), .i .i64 (.ofNat 2)]) :: (10, .cells 1 [.q 0, .q 1, .q 2, .q 3]) :: (5000, .cells 1 [.pn, .pn, .pn, .b false, .i .i64 (.ofNat 0), .i .i64 (.ofNat 0), .sn, .i .i64 (.ofNat 0), .i .i64 (.ofNat 0)]) :: []
noncomputable def rM5 : List (Nat × AO) := (0, .cells 1 [.i .i64 (.ofNat 1), .i .i64 (.ofNat 2)]) :: (10, .cells 1 [.q 0, .q 1, .q 2, .q 3]) :: (5000, .cells 1 [.pn, .pn, .pn, .b false, .i .i64 (.ofNat 0), .i .i64 (.ofNat 0), .sn, .i .i64 (.ofNat 0), .i .i64 (.ofNat 0)]) :: []
noncomputable def SM5 : Sums := sumsOf (listT 4 10)
theorem runM5 : upto (fun k => chk ((fns Tryz.prog 4 10 SM5 3000).ca 6 [.p 5000 0, .i .u8 (.ofNat k), .q 2, .q 0] (hpOf lM5 5011)) (.tu [.sn, .i .i64 (.ofNat 1)]) rM5 5012) 256 = true := by kernel_rfl
noncomputable def gM5 : List AV → Heap → Option (AV × Heap) := memo [.p 5000 0, .q 1, .q 2, .q 0] lM5 5011 (.tu [.sn, .i .i64 (.ofNat 1)]) rM5 5012
theorem SM5_ok {env : Nat → Value} : SumsOK Tryz.prog env 10 4 SM5 := sumsOf_ok _ listT_ok
theorem gM5_ok {env : Nat → Value} {k : Nat} (hk : k < 256) (he : env 1 = .int .u8 (k : Int)) : SumIs Tryz.prog env 10 4 6 gM5 :=
  memoK_ok (fns_ok namesOK (by kernel_rfl) SM5_ok 3000).ca (fun ρ us h => by simp only [VRs, VR, he] at h ⊢; exact h) (upto_ok runM5 k hk)
end Go.Ai
