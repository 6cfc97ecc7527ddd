/- page.end: where a page's slots end, if nothing but noughts lies behind. -/
import Derived.Test.YtobdajealbhjmaaGreatDoorSB
namespace Go.Proofs.YtobdajealbhjmaaGreatDoor
open Go.RowKit
theorem trim_row (g off n cap : Nat) (x : Nat → Nat) (w : World) (hn : n ≠ 0) (hcap : n ≤ cap) (hbig : n ≤ 281474976710656) (hc : ∀ i, i < n → w.cell? ⟨g, off + i, none⟩ = some (.int .u8 (x i : Int))) :
    Calls Tryz.prog 164 #[.slice (some ⟨g, off, none⟩) n cap, .string ⟨#[0]⟩] w fun e w' => (∃ a m d, e = .returned (.slice a m d) ∧ (m = 0 ↔ trimN x 0 n = 0)) ∧ ∃ k, w' = w.drewN k := by
  obtain ⟨k, rfl⟩ := Nat.exists_eq_succ_of_ne_zero hn
  exact trim_any g off k cap x w hcap hbig hc
set_option maxRecDepth 100000 in
set_option maxHeartbeats 800000 in
theorem end_any (g off len cap : Nat) (x : Nat → Nat) (w : World) (hx : ∀ i, x i < 256) (hb : len ≤ 512) (hcap : len ≤ cap) (hc : ∀ i, i < len → w.cell? ⟨g, off + i, none⟩ = some (.int .u8 (x i : Int))) :
    Calls Tryz.prog 144 #[.slice (some ⟨g, off, none⟩) len cap] w fun e w' => e = .returned (.int .i64 (endN x len : Nat)) ∧ ∃ d, w' = { w with drawn := d } := by
  by_cases h1 : len = 512
  · subst h1
    have HC := hide hc
    have c1 := hc 1 (by omega)
    have x1 := hx 1
    have hw : IntKind.i64.wrap (x 1 : Int) = (x 1 : Int) := by rw [IntKind.wrap_i64]; omega
    have HF := hide (find_any g off 512 cap (x 1) x w hx (by omega) (by omega) hc)
    obtain ⟨z, hz⟩ : ∃ z, z = findN x 512 (x 1) := ⟨_, rfl⟩
    have hzl : z ≤ 512 := by
      rw [hz]
      cases hk : x 1 with
      | zero => simp [findN]
      | succ k =>
        simp only [findN]
        split
        · omega
        · exact aftN_le _ _ _
    rw [← hz] at HF
    have HE : Hid (endN x 512 = if z = 0 then 0 else if trimN (fun i => x (z + i)) 0 (512 - z) = 0 then z else 0) := by
      unfold endN; rw [if_pos rfl, ← hz]; rfl
    clear hz x1 hc hx
    by_cases h0 : z = 0
    · subst h0
      have HR : Hid (endN x 512 = 0) := by rw [HE.out, if_pos rfl]; rfl
      clear HE hzl
      go_enter Tryz.func144, Tryz.ntmps144
      go_wp2_with (go_at_call 145; refine HF.out.mono ?_; rintro e w' ⟨rfl, d, rfl⟩)
      go_ret
      exact ⟨by rw [HR.out]; rfl, _, rfl⟩
    · have e0 : ((z : Int) == 0) = false := by simp; omega
      by_cases h5 : z = 512
      · subst h5
        have HR : Hid (endN x 512 = 512) := by rw [HE.out]; rfl
        clear HE hzl h0
        have HN := hide (fun a cap w => trim_nil a cap w)
        go_enter Tryz.func144, Tryz.ntmps144
        go_wp2_with (first | (go_at_call 145; refine HF.out.mono ?_; rintro e w' ⟨rfl, d, rfl⟩) | (go_at_call 164; refine (HN.out _ _ _).mono ?_; rintro e w' ⟨rfl, rfl⟩))
        all_goals (go_ret; exact ⟨by rw [HR.out]; rfl, _, rfl⟩)
      · have hz1 : z ≤ cap := by omega
        have hz2 : ¬ cap = z := by omega
        have HT := hide (fun d => trim_row g (off + z) (512 - z) (cap - z) (fun i => x (z + i)) { w with drawn := d } (by omega) (by omega) (by omega) (fun i hi => by rw [Nat.add_assoc]; exact HC.out (z + i) (by omega)))
        by_cases ht : trimN (fun i => x (z + i)) 0 (512 - z) = 0
        · have HR : Hid (endN x 512 = z) := by rw [HE.out, if_neg h0, if_pos ht]; rfl
          have Ht := hide ht
          clear HE ht
          go_enter Tryz.func144, Tryz.ntmps144
          go_wp2_with (first | (go_at_call 145; refine HF.out.mono ?_; rintro e w' ⟨rfl, d, rfl⟩) | (go_at_call 164; refine (HT.out _).mono ?_; rintro e w' ⟨⟨a, m, c, rfl, hm⟩, k, rfl⟩; obtain rfl : m = 0 := hm.2 Ht.out; clear hm))
          go_ret
          exact ⟨by rw [HR.out]; rfl, _, rfl⟩
        · have HR : Hid (endN x 512 = 0) := by rw [HE.out, if_neg h0, if_neg ht]; rfl
          have Ht := hide ht
          clear HE ht
          go_enter Tryz.func144, Tryz.ntmps144
          go_wp2_with (first | (go_at_call 145; refine HF.out.mono ?_; rintro e w' ⟨rfl, d, rfl⟩) | (go_at_call 164; refine (HT.out _).mono ?_; rintro e w' ⟨⟨a, m, c, rfl, hm⟩, k, rfl⟩; have hm0 : decide (0 < m) = true := by { have := Ht.out; simp; omega }; clear hm))
          go_ret
          exact ⟨by rw [HR.out]; rfl, _, rfl⟩
  · have H : Hid (endN x len = 0) := (by unfold endN; rw [if_neg h1] : endN x len = 0)
    have e1 : ((len : Int) == 512) = false := by simp; omega
    have e2 : ((len : Int) != 512) = true := by simp; omega
    clear hc hx
    go_enter Tryz.func144, Tryz.ntmps144
    go_wp2
    go_ret
    exact ⟨by rw [H.out]; rfl, w.drawn, rfl⟩
end Go.Proofs.YtobdajealbhjmaaGreatDoor
