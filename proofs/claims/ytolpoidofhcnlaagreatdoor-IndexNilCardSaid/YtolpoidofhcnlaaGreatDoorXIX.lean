/- parchmentlaw21.IndexNil, run whole: at a node that is short enough, and at one that is not. -/
import Derived.Test.YtolpoidofhcnlaaGreatDoorCf
import Derived.Test.YtolpoidofhcnlaaGreatDoorCg
import Derived.Test.YtolpoidofhcnlaaGreatDoorCh
import Derived.Test.YtolpoidofhcnlaaGreatDoorCi
import Derived.Test.YtolpoidofhcnlaaGreatDoorCj
import Derived.Test.YtolpoidofhcnlaaGreatDoorCk
import Derived.Test.YtolpoidofhcnlaaGreatDoorS8
namespace Go.Ai
open Go.Proofs Go.Proofs.YtolpoidofhcnlaaGreatDoor Go.RowKit
set_option maxRecDepth 100000
noncomputable def sFits (bb : Bool) (args : List AV) (H : Heap) : Option (AV × Heap) :=
  match args with
  | [.sl g 0 1 _ _] => match H.t.get g with
    | some (.cells _ [.i .i64 (.ofNat 0), .q 0, .q 1, .q 2, .q 3, .sn]) => some (.b bb, H)
    | _ => none
  | _ => none
theorem sFits_ok {env : Nat → Value} {ng ro n c : Nat} {base : Option Addr} {nm vl : ByteArray} (h0 : env 0 = .slice base n c) (h2 : env 2 = .string nm) (h3 : env 3 = .string vl) : SumOK Tryz.prog env ro ng 5 (sFits (fitB n nm vl)) := by
  intro args us H w ρ v H' r hg ha h
  unfold sFits at h
  split at h
  · rename_i g cp op
    split at h
    · rename_i sz hq
      cases h
      simp only [VRs, VR] at ha
      obtain ⟨u1, us1, rfl, ⟨gb, gx, hgc, rfl⟩, rfl⟩ := ha
      obtain ⟨ob, w1, lv, rest, et, fz, rfl, w2, w3, w4⟩ := r.obj _ _ _ _ hq hgc
      simp only [VRs, VR, h0, h2, h3] at w2
      obtain ⟨_, _, rfl, rfl, _, _, rfl, rfl, _, _, rfl, rfl, _, _, rfl, rfl, _, _, rfl, rfl, _, _, rfl, rfl, rfl⟩ := w2
      refine (fits_one gb n c base (cp + if op then gx else 0) nm vl w (by simp [World.cell?, w1]) (by simp [World.cell?, w1]) (by simp [World.cell?, w1]) (by simp [World.cell?, w1])).mono fun e w' hq => ?_
      obtain ⟨rfl, rfl⟩ := hq
      exact ⟨_, ρ, rfl, by simp only [VR], Step.refl r⟩
    · cases h
  · cases h
noncomputable def listI (bb : Bool) : List (FuncId × (List AV → Heap → Option (AV × Heap))) :=
  (5, sFits bb) :: (4, gAW) :: (12, gB2) :: (6, orS gM4 (orS gM5 gN6)) :: (7, orS gW2 (orS gW3 gV4)) ::
  (9, gC3) :: (10, gA5) :: (11, gR4) :: listT 4 10
def envI (base : Option Addr) (n c k : Nat) (nm vl : ByteArray) : Nat → Value
  | 0 => .slice base n c
  | 1 => .int .u8 (k : Int)
  | 2 => .string nm
  | _ => .string vl
theorem listI_ok {base : Option Addr} {n c k : Nat} {nm vl : ByteArray} (hk : k < 256) : SumsOK Tryz.prog (envI base n c k nm vl) 10 4 (sumsOf (listI (fitB n nm vl))) := by
  refine sumsOf_ok _ fun p hp => ?_
  simp only [listI, List.mem_cons] at hp
  rcases hp with rfl | rfl | rfl | rfl | rfl | rfl | rfl | rfl | hp
  · exact sFits_ok rfl rfl rfl
  · exact gAW_ok
  · exact gB2_ok
  · exact orS_ok (gM4_ok hk rfl) (orS_ok (gM5_ok hk rfl) gN6_ok)
  · exact orS_ok (gW2_ok hk rfl) (orS_ok (gW3_ok hk rfl) gV4_ok)
  · exact gC3_ok
  · exact gA5_ok
  · exact gR4_ok
  · exact listT_ok p hp
noncomputable def lIx : List (Nat × AO) := (0, .cells 1 [.i .i64 (.ofNat 1), .i .i64 (.ofNat 2)]) :: []
theorem runIxT : chk ((fns Tryz.prog 4 10 (sumsOf (listI true)) 3000).ca 3 [.ag [.q 0, .q 1, .q 2, .q 3]] (hpOf lIx 10)) (.b true) [] 6736 = true := by kernel_rfl
theorem runIxF : chk ((fns Tryz.prog 4 10 (sumsOf (listI false)) 3000).ca 3 [.ag [.q 0, .q 1, .q 2, .q 3]] (hpOf lIx 10)) (.b true) [] 5000 = true := by kernel_rfl
theorem runI (bb : Bool) : ∃ H1, (fns Tryz.prog 4 10 (sumsOf (listI bb)) 3000).ca 3 [.ag [.q 0, .q 1, .q 2, .q 3]] (hpOf lIx 10) = some (.b true, H1) := by
  cases bb with
  | true => exact chk_some runIxT
  | false => exact chk_some runIxF
end Go.Ai
