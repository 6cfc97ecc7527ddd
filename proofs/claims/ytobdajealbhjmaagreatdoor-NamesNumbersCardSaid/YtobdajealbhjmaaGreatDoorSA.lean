/- bytes.Trim (of one byte), page.end. -/
import Derived.Test.YtobdajealbhjmaaGreatDoorS1
import Derived.Test.YtobdajealbhjmaaGreatDoorS9
namespace Go.Proofs.YtobdajealbhjmaaGreatDoor
open Go.RowKit
theorem trimN_le (x : Nat → Nat) (c : Nat) : ∀ n, trimN x c n ≤ n
  | 0 => Nat.le_refl _
  | n + 1 => by
    simp only [trimN]
    split
    · have := trimN_le x c n; omega
    · omega
theorem trimN_last (x : Nat → Nat) (c : Nat) : ∀ n k, trimN x c n = k + 1 → x k ≠ c
  | 0, k, h => by simp [trimN] at h
  | n + 1, k, h => by
    simp only [trimN] at h
    split at h
    · exact trimN_last x c n k h
    · rename_i hne
      have : n = k := by omega
      subst this; exact hne
theorem trimN_zero (x : Nat → Nat) : ∀ n, trimN x 0 n = 0 ↔ ∀ i, i < n → x i = 0
  | 0 => ⟨fun _ i h => by omega, fun _ => rfl⟩
  | n + 1 => by
    simp only [trimN]
    by_cases h : x n = 0
    · rw [if_pos h, trimN_zero x n]
      exact ⟨fun hh i hi => by
        by_cases e : i = n
        · rw [e]; exact h
        · exact hh i (by omega), fun hh i hi => hh i (by omega)⟩
    · rw [if_neg h]
      exact ⟨fun hh => by omega, fun hh => absurd (hh n (by omega)) h⟩
def endN (x : Nat → Nat) (len : Nat) : Nat := if len = 512 then (if findN x len (x 1) = 0 then 0 else if trimN (fun i => x (findN x len (x 1) + i)) 0 (len - findN x len (x 1)) = 0 then findN x len (x 1) else 0) else 0
theorem firstNe (x : Nat → Nat) (c : Nat) : ∀ k, x k ≠ c → ∃ j, j ≤ k ∧ x j ≠ c ∧ ∀ i, i < j → x i = c
  | 0, h => ⟨0, Nat.le_refl _, h, fun i hi => by omega⟩
  | k + 1, h => by
    by_cases h0 : x 0 = c
    · obtain ⟨j, h1, h2, h3⟩ := firstNe (fun i => x (i + 1)) c k h
      exact ⟨j + 1, by omega, h2, fun i hi => by cases i with
        | zero => exact h0
        | succ i => exact h3 i (by omega)⟩
    · exact ⟨0, by omega, h0, fun i hi => by omega⟩
set_option maxHeartbeats 400000 in
theorem trimLeft_at (g off k cap c j : Nat) (x : Nat → Nat) (w : World) (hcap : k + 1 ≤ cap) (hbig : k + 1 ≤ 281474976710656) (hj : j ≤ k) (hne : x j ≠ c) (hlt : ∀ i, i < j → x i = c) (hc : ∀ i, i ≤ k → w.cell? ⟨g, off + i, none⟩ = some (.int .u8 (x i : Int))) :
    Calls Tryz.prog 175 #[.slice (some ⟨g, off, none⟩) (k + 1) cap, .int .u8 (c : Int)] w fun e w' => e = .returned (.slice (some ⟨g, off + j, none⟩) (k - j + 1) (cap - j)) ∧ w' = w := by
  have HN := hide hne
  have HT := hide hlt
  clear hne hlt
  go_enter Tryz.func175, Tryz.ntmps175
  go_wp2
  go_loopw [0] (fun v wr => ∃ i m : Nat, i + m = k ∧ i ≤ j ∧ v = .slice (some ⟨g, off + i, none⟩) (m + 1) (cap - i) ∧ w = wr) (fun v _ => match v with | .slice _ m _ => m | _ => 0)
  case atStart => exact ⟨0, k, by omega, by omega, rfl, rfl⟩
  case round =>
    obtain ⟨i, m, hi, hij, rfl, rfl⟩ := hrel
    have hcj := hc i (by omega)
    have h1 : decide (0 < m + 1) = true := by simp
    by_cases he : x i = c
    · have hne2 : i ≠ j := fun e => HN.out (by rw [← e]; exact he)
      have hm : m ≠ 0 := fun e => by omega
      obtain ⟨m, rfl⟩ := Nat.exists_eq_succ_of_ne_zero hm
      subst he
      have hb : ¬ (cap - i = 1) := by omega
      go_wp2
      exact ⟨⟨i + 1, m, by omega, by omega, by rw [Nat.add_assoc, Nat.sub_sub], trivial⟩, by simp⟩
    · have hij2 : i = j := by
        by_cases h : i < j
        · exact absurd (HT.out i h) he
        · omega
      subst hij2
      have hkm : k - i = m := by omega
      have he' : ((x i : Int) == (c : Int)) = false := by simp; omega
      have h2 : (((m + 1 : Nat) : Int) == 0) = false := by simp; omega
      go_wp2
      go_ret
      rw [hkm]
      exact ⟨rfl, rfl⟩
theorem trimLeft_some (g off k cap c : Nat) (x : Nat → Nat) (w : World) (hcap : k + 1 ≤ cap) (hbig : k + 1 ≤ 281474976710656) (hne : x k ≠ c) (hc : ∀ i, i ≤ k → w.cell? ⟨g, off + i, none⟩ = some (.int .u8 (x i : Int))) :
    ∃ j, Calls Tryz.prog 175 #[.slice (some ⟨g, off, none⟩) (k + 1) cap, .int .u8 (c : Int)] w fun e w' => e = .returned (.slice (some ⟨g, off + j, none⟩) (k - j + 1) (cap - j)) ∧ w' = w := by
  obtain ⟨j, h1, h2, h3⟩ := firstNe x c k hne
  exact ⟨j, trimLeft_at g off k cap c j x w hcap hbig h1 h2 h3 hc⟩
set_option maxHeartbeats 400000 in
theorem trimLeft_none (a : Option Addr) (cap c : Nat) (w : World) :
    Calls Tryz.prog 175 #[.slice a 0 cap, .int .u8 (c : Int)] w fun e w' => e = .returned (.slice none 0 0) ∧ w' = w := by
  go_enter Tryz.func175, Tryz.ntmps175
  go_wp2
  go_loopw [0] (fun v wr => v = .slice a 0 cap ∧ w = wr) (fun _ _ => 0)
  case atStart => exact ⟨rfl, rfl⟩
  case round =>
    obtain ⟨rfl, rfl⟩ := hrel
    go_wp2
    go_ret
    exact ⟨rfl, rfl⟩
end Go.Proofs.YtobdajealbhjmaaGreatDoor
