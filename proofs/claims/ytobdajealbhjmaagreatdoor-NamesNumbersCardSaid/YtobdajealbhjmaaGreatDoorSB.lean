/- bytes.Trim of one byte. -/
import Derived.Test.YtobdajealbhjmaaGreatDoorSA
namespace Go.Proofs.YtobdajealbhjmaaGreatDoor
open Go.RowKit
set_option maxRecDepth 100000 in
set_option maxHeartbeats 400000 in
theorem trim_any (g off k cap : Nat) (x : Nat → Nat) (w : World) (hcap : k + 1 ≤ cap) (hbig : k + 1 ≤ 281474976710656) (hc : ∀ i, i < k + 1 → w.cell? ⟨g, off + i, none⟩ = some (.int .u8 (x i : Int))) :
    Calls Tryz.prog 164 #[.slice (some ⟨g, off, none⟩) (k + 1) cap, .string ⟨#[0]⟩] w fun e w' => (∃ a m d, e = .returned (.slice a m d) ∧ (m = 0 ↔ trimN x 0 (k + 1) = 0)) ∧ ∃ n, w' = w.drewN n := by
  have HC := hide hc
  clear hc
  go_enter Tryz.func164, Tryz.ntmps164
  have h1 : (((k + 1 : Nat) : Int) == 0) = false := by simp; omega
  obtain ⟨t, ht⟩ : ∃ t, t = trimN x 0 (k + 1) := ⟨_, rfl⟩
  have HR := hide (fun w (hc : ∀ i, i < k + 1 → w.cell? ⟨g, off + i, none⟩ = some (.int .u8 (x i : Int))) => trimRight_any g off (k + 1) cap 0 x w hcap hbig hc)
  have htl : t ≤ k + 1 := by rw [ht]; exact trimN_le x 0 (k + 1)
  rw [← ht] at HR
  cases t with
  | zero =>
    have HT := hide ht
    clear ht htl
    go_wp2_with fail
    go_quiet (first | (go_at_call 176; refine Calls.quiet_of_same (HR.out _ ?_); exact HC.out) | (go_at_call 175; exact Calls.quiet_of_same (trimLeft_none _ _ _ _)))
    go_wp2
    go_ret
    exact ⟨⟨_, _, _, rfl, by rw [← HT.out]⟩, _, rfl⟩
  | succ t =>
    have hne : x t ≠ 0 := trimN_last x 0 (k + 1) t ht.symm
    have HT := hide ht
    obtain ⟨j, h2, h3, h4⟩ := firstNe x 0 t hne
    have HL := hide (fun w (hc : ∀ i, i < k + 1 → w.cell? ⟨g, off + i, none⟩ = some (.int .u8 (x i : Int))) => trimLeft_at g off t cap 0 j x w (by omega) (by omega) h2 h3 h4 (fun i hi => hc i (by omega)))
    clear ht htl hne h2 h3 h4
    go_wp2_with fail
    go_quiet (first | (go_at_call 176; refine Calls.quiet_of_same (HR.out _ ?_); exact HC.out) | (go_at_call 175; refine Calls.quiet_of_same (HL.out _ ?_); exact HC.out))
    go_wp2
    go_ret
    exact ⟨⟨_, _, _, rfl, by rw [← HT.out]; omega⟩, _, rfl⟩
set_option maxRecDepth 100000 in
set_option maxHeartbeats 400000 in
theorem trim_nil (a : Option Addr) (cap : Nat) (w : World) :
    Calls Tryz.prog 164 #[.slice a 0 cap, .string ⟨#[0]⟩] w fun e w' => e = .returned (.slice none 0 0) ∧ w' = w := by
  go_enter Tryz.func164, Tryz.ntmps164
  go_wp2
  go_ret
  exact ⟨rfl, rfl⟩
end Go.Proofs.YtobdajealbhjmaaGreatDoor
