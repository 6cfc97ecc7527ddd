/- value.made. -/
import Derived.Test.YtmnmnnocgimcpaaGreatDoorVl
namespace Go.Proofs.YtmnmnnocgimcpaaGreatDoor
open Go.RowKit
/-- what is made, where it fits -/
def mkV (ok : Bool) (n : Int) : Int := if ok then n else 0
def erV (ok : Bool) : Int := if ok then 0 else 251
theorem mkV_yes {ok : Bool} {n : Int} (h : ok = true) : mkV ok n = n := by unfold mkV; rw [if_pos h]
theorem mkV_no {ok : Bool} {n : Int} (h : ok = false) : mkV ok n = 0 := by unfold mkV; rw [h]; rfl
theorem erV_yes {ok : Bool} (h : ok = true) : erV ok = 0 := by unfold erV; rw [if_pos h]
theorem erV_no {ok : Bool} (h : ok = false) : erV ok = 251 := by unfold erV; rw [h]; rfl
/-- of x and y the sign s makes v, or says r -/
def Made (s : ByteArray) (x y v r : Int) : Prop := ∀ w, Calls Tryz.prog 122 #[.string s, .int .i64 x, .int .i64 y] w fun e w' => e = .returned (.tuple #[.int .i64 v, .int .i64 r]) ∧ w = w'
set_option maxRecDepth 100000 in
set_option maxHeartbeats 1000000 in
theorem made_plus (a b : Int) (ha : R64 a) (hb : R64 b) : Made ⟨#[43]⟩ a b (mkV (fit (a + b)) (a + b)) (erV (fit (a + b))) := by
  intro w
  have Ha := hide ha
  have Hb := hide hb
  clear ha hb
  rcases Bool.eq_false_or_eq_true (fit (a + b)) with hf | hf
  · rw [mkV_yes hf, erV_yes hf]
    have Hw := hide (wrap_fit hf)
    go_enter Tryz.func122, Tryz.ntmps122
    go_wp2_with fail
    refine (plus_any a b Ha.out Hb.out _).mono ?_
    rintro e w1 ⟨rfl, rfl⟩
    rw [Hw.out]
    go_wp2
    go_ret2
    exact ⟨rfl, rfl⟩
  · rw [mkV_no hf, erV_no hf]
    go_enter Tryz.func122, Tryz.ntmps122
    go_wp2_with fail
    refine (plus_any a b Ha.out Hb.out _).mono ?_
    rintro e w1 ⟨rfl, rfl⟩
    go_wp2
    go_ret2
    exact ⟨rfl, rfl⟩
set_option maxRecDepth 100000 in
set_option maxHeartbeats 1000000 in
theorem made_times (a b : Int) (ha : R64 a) (hb : R64 b) : Made ⟨#[42]⟩ a b (mkV (fit (a * b)) (a * b)) (erV (fit (a * b))) := by
  intro w
  have Ha := hide ha
  have Hb := hide hb
  clear ha hb
  rcases Bool.eq_false_or_eq_true (fit (a * b)) with hf | hf
  · rw [mkV_yes hf, erV_yes hf]
    have Hw := hide (wrap_fit hf)
    go_enter Tryz.func122, Tryz.ntmps122
    go_wp2_with fail
    refine (times_any a b Ha.out Hb.out _).mono ?_
    rintro e w1 ⟨rfl, rfl⟩
    rw [Hw.out]
    go_wp2
    go_ret2
    exact ⟨rfl, rfl⟩
  · rw [mkV_no hf, erV_no hf]
    go_enter Tryz.func122, Tryz.ntmps122
    go_wp2_with fail
    refine (times_any a b Ha.out Hb.out _).mono ?_
    rintro e w1 ⟨rfl, rfl⟩
    go_wp2
    go_ret2
    exact ⟨rfl, rfl⟩
set_option maxRecDepth 100000 in
set_option maxHeartbeats 1000000 in
theorem made_minus (a b : Int) (ha : R64 a) (hb : R64 b) : Made ⟨#[45]⟩ a b (mkV (fit (a - b)) (a - b)) (erV (fit (a - b))) := by
  intro w
  have H := hide (minus_law a b ha hb)
  clear ha hb
  rcases Bool.eq_false_or_eq_true (fit (a - b)) with hf | hf
  · rw [mkV_yes hf, erV_yes hf]
    have Hw := hide (wrap_fit hf)
    have hq : decide (0 ≤ bits .and .i64 (bits .xor .i64 a b) (bits .xor .i64 a (wrap64 (a - b)))) = true := by rw [H.out, hf]
    go_enter Tryz.func122, Tryz.ntmps122
    go_wp2

    go_ret2
    exact ⟨by rw [Hw.out]; rfl, rfl⟩
  · rw [mkV_no hf, erV_no hf]
    have hq : decide (0 ≤ bits .and .i64 (bits .xor .i64 a b) (bits .xor .i64 a (wrap64 (a - b)))) = false := by rw [H.out, hf]
    go_enter Tryz.func122, Tryz.ntmps122
    go_wp2
    go_ret2
    exact ⟨rfl, rfl⟩
theorem tdiv_R (a b : Int) (ha : R64 a) (hb : R64 b) (h : b ≠ -1 ∨ a ≠ -9223372036854775808) : R64 (a.tdiv b) := by
  have h1 := Int.natAbs_tdiv_le_natAbs a b
  unfold R64 at *
  rcases Decidable.em (b = -1) with e | e
  · subst e
    have : a.tdiv (-1) = -a := by rw [Int.tdiv_neg, Int.tdiv_one]
    omega
  · rcases Decidable.em (a = -9223372036854775808) with e2 | e2
    · subst e2
      rcases Decidable.em (b = 1) with e3 | e3
      · subst e3; simp
      · rcases Decidable.em (b = 0) with e4 | e4
        · subst e4; simp
        · have h2 : (Int.tdiv (-9223372036854775808) b).natAbs = 9223372036854775808 / b.natAbs := by rw [Int.natAbs_tdiv]; rfl
          have h3 : 9223372036854775808 / b.natAbs ≤ 9223372036854775808 / 2 := Nat.div_le_div_left (by omega) (by decide)
          omega
    · omega
theorem div_fit (a b : Int) (ha : R64 a) (hb : R64 b) : fit (a.tdiv b) = !(b == -1 && a == -9223372036854775808) := by
  rcases Decidable.em (b = -1 ∧ a = -9223372036854775808) with ⟨h1, h2⟩ | h
  · subst h1 h2; decide
  · have := (fit_iff _).2 (tdiv_R a b ha hb (by omega))
    rw [this]
    simp only [Bool.true_eq, Bool.not_eq_true', Bool.and_eq_false_iff, beq_eq_false_iff_ne]
    omega
set_option maxRecDepth 100000 in
set_option maxHeartbeats 1000000 in
theorem made_div (a b : Int) (ha : R64 a) (hb : R64 b) (h0 : b ≠ 0) : Made ⟨#[100, 105, 118]⟩ a b (mkV (fit (a.tdiv b)) (a.tdiv b)) (erV (fit (a.tdiv b))) := by
  intro w
  have H := hide (div_fit a b ha hb)
  clear ha hb
  have h0' : (b == 0) = false := by simpa using h0
  by_cases h1 : b = -1
  · subst h1
    by_cases h2 : a = -9223372036854775808
    · subst h2
      have hf : fit (Int.tdiv (-9223372036854775808) (-1)) = false := by decide
      rw [mkV_no hf, erV_no hf]
      go_enter Tryz.func122, Tryz.ntmps122
      go_wp2
      go_ret2
      exact ⟨rfl, rfl⟩
    · have hf : fit (a.tdiv (-1)) = true := by rw [H.out]; simp [h2]
      rw [mkV_yes hf, erV_yes hf]
      have Hw := hide (wrap_fit hf)
      have hm : (a != -9223372036854775808) = true := by simpa using h2
      have ht : Hid (a.tdiv (-1) = -a) := by show a.tdiv (-1) = -a; rw [Int.tdiv_neg, Int.tdiv_one]
      rw [ht.out] at Hw ⊢
      go_enter Tryz.func122, Tryz.ntmps122
      go_wp2
      go_ret2
      exact ⟨by rw [Hw.out]; rfl, rfl⟩
  · have hf : fit (a.tdiv b) = true := by rw [H.out]; simp [h1]
    rw [mkV_yes hf, erV_yes hf]
    have Hw := hide (wrap_fit hf)
    have hm : (b != -1) = true := by simpa using h1
    go_enter Tryz.func122, Tryz.ntmps122
    go_wp2
    go_ret2
    exact ⟨by rw [Hw.out]; rfl, rfl⟩
set_option maxRecDepth 100000 in
set_option maxHeartbeats 1000000 in
theorem made_mod (a b : Int) (_ha : R64 a) (_hb : R64 b) (h0 : b ≠ 0) : Made ⟨#[109, 111, 100]⟩ a b (a.tmod b) 0 := by
  intro w
  have h0' : (b == 0) = false := by simpa using h0
  go_enter Tryz.func122, Tryz.ntmps122
  go_wp2
  go_ret2
  exact ⟨rfl, rfl⟩
set_option maxRecDepth 100000 in
set_option maxHeartbeats 1000000 in
theorem made_div0 (a : Int) : Made ⟨#[100, 105, 118]⟩ a 0 0 252 := by
  intro w
  go_enter Tryz.func122, Tryz.ntmps122
  go_wp2
  go_ret2
  exact ⟨rfl, rfl⟩
set_option maxRecDepth 100000 in
set_option maxHeartbeats 1000000 in
theorem made_mod0 (a : Int) : Made ⟨#[109, 111, 100]⟩ a 0 0 252 := by
  intro w
  go_enter Tryz.func122, Tryz.ntmps122
  go_wp2
  go_ret2
  exact ⟨rfl, rfl⟩
end Go.Proofs.YtmnmnnocgimcpaaGreatDoor
