/- Plain laws of sums, products, quotients. -/
import Derived.Test.YtfechbibhclfoaaGreatDoorVm
namespace Go.Proofs.YtfechbibhclfoaaGreatDoor
open Go.RowKit
theorem tmod_sign (a b : Int) : (0 ≤ a → 0 ≤ a.tmod b ∧ a.tmod b ≤ a) ∧ (a < 0 → a.tmod b ≤ 0 ∧ a ≤ a.tmod b) := by
  have h1 : (a.tmod b).natAbs = a.natAbs % b.natAbs := Int.natAbs_tmod a b
  have h2 : a.natAbs % b.natAbs ≤ a.natAbs := Nat.mod_le _ _
  refine ⟨fun h => ?_, fun h => ?_⟩
  · have := Int.tmod_nonneg b h
    omega
  · have h3 := Int.tmod_nonneg b (show 0 ≤ -a by omega)
    rw [Int.neg_tmod] at h3
    omega
theorem tmod_back (a b : Int) : a.tdiv b * b + a.tmod b = a := Int.tdiv_mul_add_tmod a b
theorem tmod_lt (a b : Int) (h : b ≠ 0) : (a.tmod b).natAbs < b.natAbs := by
  rw [Int.natAbs_tmod]; exact Nat.mod_lt _ (by omega)
theorem back_fit (a b : Int) (ha : R64 a) : fit (a.tdiv b * b) = true := by
  have h1 := tmod_back a b
  have h2 := tmod_sign a b
  rw [fit_iff]
  unfold R64 at *
  generalize a.tdiv b * b = p at *
  generalize a.tmod b = m at *
  rcases Int.lt_or_le a 0 with h | h
  · have := h2.2 h; omega
  · have := h2.1 h; omega
theorem tmod_R (a b : Int) (ha : R64 a) : R64 (a.tmod b) := by
  have h2 := tmod_sign a b
  unfold R64 at *
  generalize a.tmod b = m at *
  rcases Int.lt_or_le a 0 with h | h
  · have := h2.2 h; omega
  · have := h2.1 h; omega
/-- what is left is not the least number -/
theorem tmod_more (a b : Int) (ha : R64 a) (hb : R64 b) (h : b ≠ 0) : a.tmod b > -9223372036854775808 := by
  have h2 := tmod_lt a b h
  unfold R64 at *
  omega
theorem tmod_neg (a b : Int) (h : a.tmod b ≠ 0) : decide (a.tmod b < 0) = decide (a < 0) := by
  have h2 := tmod_sign a b
  generalize a.tmod b = m at *
  rcases Int.lt_or_le a 0 with h' | h'
  · have := h2.2 h'; rw [Bool.eq_iff_iff]; simp; omega
  · have := h2.1 h'; rw [Bool.eq_iff_iff]; simp; omega
/-- a quotient that does not fit -/
theorem div_unfit (a b : Int) (ha : R64 a) (hb : R64 b) (h : fit (a.tdiv b) = false) : b = -1 ∧ a = -9223372036854775808 := by
  rw [div_fit a b ha hb] at h
  simpa using h
theorem div_fits (a b : Int) (ha : R64 a) (hb : R64 b) (h : fit (a.tdiv b) = true) : ¬ (b = -1 ∧ a = -9223372036854775808) := by
  rintro ⟨h1, h2⟩
  subst h1 h2
  exact absurd h (by decide)
end Go.Proofs.YtfechbibhclfoaaGreatDoor
