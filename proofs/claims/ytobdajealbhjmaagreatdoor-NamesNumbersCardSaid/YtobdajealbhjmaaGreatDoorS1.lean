/- bytes.trimRightByte. -/
import Derived.Test.YtobdajealbhjmaaGreatDoorRows
import Derived.Test.YtobdajealbhjmaaGreatDoorMem
namespace Go.Proofs.YtobdajealbhjmaaGreatDoor
open Go.RowKit
/-- how many bytes stay -/
def trimN (x : Nat → Nat) (c : Nat) : Nat → Nat
  | 0 => 0
  | n + 1 => if x n = c then trimN x c n else n + 1
set_option maxHeartbeats 400000 in
theorem trimRight_any (g off len cap c : Nat) (x : Nat → Nat) (w : World) (hcap : len ≤ cap) (hbig : len ≤ 281474976710656) (hc : ∀ i, i < len → w.cell? ⟨g, off + i, none⟩ = some (.int .u8 (x i : Int))) :
    Calls Tryz.prog 176 #[.slice (some ⟨g, off, none⟩) len cap, .int .u8 (c : Int)] w fun e w' => e = .returned (.slice (some ⟨g, off, none⟩) (trimN x c len) cap) ∧ w' = w := by
  go_enter Tryz.func176, Tryz.ntmps176
  go_wp2
  go_loopw [0] (fun v wr => ∃ k : Nat, k ≤ len ∧ v = .slice (some ⟨g, off, none⟩) k cap ∧ trimN x c k = trimN x c len ∧ w = wr) (fun v _ => match v with | .slice _ k _ => k | _ => 0)
  case atStart => exact ⟨len, Nat.le_refl _, rfl, rfl, rfl⟩
  case round =>
    obtain ⟨k, hk, rfl, ht, rfl⟩ := hrel
    have H := hide ht
    clear ht
    cases k with
    | zero =>
      go_wp2
      go_ret
      exact ⟨by have := H.out; simp only [trimN] at this; rw [← this]; rfl, rfl⟩
    | succ k =>
      have hck : w.cell? ⟨g, off + k, none⟩ = some (.int .u8 (x k : Int)) := hc k (by omega)
      have hw1 : IntKind.i64.wrap (((k + 1 : Nat) : Int) - 1) = (k : Int) := by rw [IntKind.wrap_i64]; omega
      have h1 : decide (0 < k + 1) = true := by simp
      by_cases he : x k = c
      · have H2 : Hid (trimN x c k = trimN x c len) := by have := H.out; simp only [trimN, he, if_true] at this; exact this
        subst he
        go_wp2
        exact ⟨⟨k, by omega, rfl, H2.out, trivial⟩, by simp⟩
      · have H2 : Hid (k + 1 = trimN x c len) := by have := H.out; simp only [trimN, he, if_false] at this; exact this
        have he' : ((x k : Int) == (c : Int)) = false := by simp; omega
        go_wp2
        go_ret
        exact ⟨by rw [← H2.out]; rfl, rfl⟩
end Go.Proofs.YtobdajealbhjmaaGreatDoor
