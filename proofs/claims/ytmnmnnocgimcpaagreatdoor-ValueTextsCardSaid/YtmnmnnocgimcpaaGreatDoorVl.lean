/- value.plus, times, made: what a sign makes of two numbers. -/
import Derived.Test.YtmnmnnocgimcpaaGreatDoorSh
import Derived.Test.YtmnmnnocgimcpaaGreatDoorVa
namespace Go.Proofs.YtmnmnnocgimcpaaGreatDoor
open Go.RowKit
/-- a number of 64 bits -/
def R64 (x : Int) : Prop := -9223372036854775808 ≤ x ∧ x ≤ 9223372036854775807
def fit (x : Int) : Bool := decide (-9223372036854775808 ≤ x ∧ x ≤ 9223372036854775807)
theorem fit_iff (x : Int) : fit x = true ↔ R64 x := by unfold fit R64; simp
theorem wrap_R (x : Int) : R64 (wrap64 x) := by unfold R64 wrap64; omega
theorem wrap_fit {x : Int} (h : fit x = true) : wrap64 x = x := by
  have := (fit_iff x).1 h
  unfold R64 at this; unfold wrap64; omega
theorem wrap_i64_toInt (r : BitVec 64) : IntKind.i64.wrap (r.toNat : Int) = r.toInt := by
  rw [IntKind.wrap_i64, BitVec.toInt_eq_toNat_cond]
  have := r.isLt
  split <;> omega
theorem xor_toInt (x y : Int) : bits .xor .i64 x y = (BitVec.ofInt 64 x ^^^ BitVec.ofInt 64 y).toInt := wrap_i64_toInt _
theorem and_toInt (x y : Int) : bits .and .i64 x y = (BitVec.ofInt 64 x &&& BitVec.ofInt 64 y).toInt := wrap_i64_toInt _
theorem msb_ofInt (x : Int) (h : R64 x) : (BitVec.ofInt 64 x).msb = decide (x < 0) := by
  rw [BitVec.msb_eq_toInt, BitVec.toInt_ofInt]
  unfold R64 at h
  congr 1
  rw [Int.bmod_def]
  apply propext
  constructor <;> (split <;> omega)
theorem sign_law (a b c d : Int) (ha : R64 a) (hb : R64 b) (hc : R64 c) (hd : R64 d) : decide (0 ≤ bits .and .i64 (bits .xor .i64 a c) (bits .xor .i64 b d)) = !((decide (a < 0) != decide (c < 0)) && (decide (b < 0) != decide (d < 0))) := by
  rw [and_toInt, xor_toInt a c, xor_toInt b d, BitVec.ofInt_toInt, BitVec.ofInt_toInt]
  have h := BitVec.msb_eq_toInt (x := (BitVec.ofInt 64 a ^^^ BitVec.ofInt 64 c) &&& (BitVec.ofInt 64 b ^^^ BitVec.ofInt 64 d))
  rw [BitVec.msb_and, BitVec.msb_xor, BitVec.msb_xor, msb_ofInt a ha, msb_ofInt b hb, msb_ofInt c hc, msb_ofInt d hd] at h
  generalize ((BitVec.ofInt 64 a ^^^ BitVec.ofInt 64 c) &&& (BitVec.ofInt 64 b ^^^ BitVec.ofInt 64 d)).toInt = z at h
  rw [show (decide (a < 0) != decide (c < 0)) = (decide (a < 0) ^^ decide (c < 0)) from rfl, show (decide (b < 0) != decide (d < 0)) = (decide (b < 0) ^^ decide (d < 0)) from rfl, h]
  by_cases hz : z < 0
  · have : ¬ 0 ≤ z := by omega
    simp [hz]
  · have : 0 ≤ z := by omega
    simp [this]
theorem plus_law (a b : Int) (ha : R64 a) (hb : R64 b) : decide (0 ≤ bits .and .i64 (bits .xor .i64 a (wrap64 (a + b))) (bits .xor .i64 b (wrap64 (a + b)))) = fit (a + b) := by
  rw [sign_law a b _ _ ha hb (wrap_R _) (wrap_R _)]
  unfold fit
  have e : wrap64 (a + b) = (a + b + 9223372036854775808) % 18446744073709551616 - 9223372036854775808 := by unfold wrap64; rfl
  unfold R64 at ha hb
  generalize wrap64 (a + b) = c at e
  rw [Bool.eq_iff_iff]
  simp
  omega
theorem minus_law (a b : Int) (ha : R64 a) (hb : R64 b) : decide (0 ≤ bits .and .i64 (bits .xor .i64 a b) (bits .xor .i64 a (wrap64 (a - b)))) = fit (a - b) := by
  rw [sign_law a a _ _ ha ha hb (wrap_R _)]
  unfold fit
  have e : wrap64 (a - b) = (a - b + 9223372036854775808) % 18446744073709551616 - 9223372036854775808 := by unfold wrap64; rfl
  unfold R64 at ha hb
  generalize wrap64 (a - b) = c at e
  rw [Bool.eq_iff_iff]
  simp
  omega
set_option maxRecDepth 100000 in
set_option maxHeartbeats 400000 in
theorem plus_any (a b : Int) (ha : R64 a) (hb : R64 b) (w : World) : Calls Tryz.prog 73 #[.int .i64 a, .int .i64 b] w fun e w' => e = .returned (.tuple #[.int .i64 (wrap64 (a + b)), .bool (fit (a + b))]) ∧ w = w' := by
  have H := hide (plus_law a b ha hb)
  clear ha hb
  go_enter Tryz.func73, Tryz.ntmps73
  go_wp2
  go_ret2
  exact ⟨by rw [← H.out]; rfl, rfl⟩
/-- a number's size -/
theorem size_pos (a : Int) (ha : R64 a) (h : ¬ a < 0) : IntKind.u64.wrap a = (a.natAbs : Int) := by
  unfold R64 at ha; rw [IntKind.wrap_u64]; omega
theorem size_neg (a : Int) (ha : R64 a) (h : a < 0) : IntKind.u64.wrap (-IntKind.u64.wrap a) = (a.natAbs : Int) := by
  unfold R64 at ha; rw [IntKind.wrap_u64, IntKind.wrap_u64]; omega
set_option maxRecDepth 100000 in
set_option maxHeartbeats 400000 in
theorem tsize_any (a : Int) (ha : R64 a) (w : World) : Calls Tryz.prog 189 #[.int .i64 a] w fun e w' => e = .returned (.int .u64 (a.natAbs : Int)) ∧ w = w' := by
  by_cases h : a < 0
  · have H := hide (size_neg a ha h)
    clear ha
    go_enter Tryz.func189, Tryz.ntmps189
    go_wp2
    go_ret
    exact ⟨ret_int H.out, rfl⟩
  · have H := hide (size_pos a ha h)
    clear ha
    go_enter Tryz.func189, Tryz.ntmps189
    go_wp2
    go_ret
    exact ⟨ret_int H.out, rfl⟩
theorem mul_signs (a b : Int) : a * b = if (decide (a < 0) != decide (b < 0)) = true then -((a.natAbs * b.natAbs : Nat) : Int) else ((a.natAbs * b.natAbs : Nat) : Int) := by
  rcases Int.lt_or_le a 0 with ha | ha <;> rcases Int.lt_or_le b 0 with hb | hb
  · obtain ⟨x, hx⟩ : ∃ x : Nat, a = -(x : Int) := ⟨a.natAbs, by omega⟩
    obtain ⟨y, hy⟩ : ∃ y : Nat, b = -(y : Int) := ⟨b.natAbs, by omega⟩
    rw [if_neg (by simp [ha, hb])]
    subst hx hy
    simp only [Int.natAbs_neg, Int.natAbs_natCast, Int.natCast_mul]
    rw [Int.neg_mul_neg]
  · obtain ⟨x, hx⟩ : ∃ x : Nat, a = -(x : Int) := ⟨a.natAbs, by omega⟩
    obtain ⟨y, hy⟩ : ∃ y : Nat, b = (y : Int) := ⟨b.natAbs, by omega⟩
    rw [if_pos (by have : ¬ b < 0 := by omega
                   simp [ha, this])]
    subst hx hy
    simp only [Int.natAbs_neg, Int.natAbs_natCast, Int.natCast_mul]
    rw [Int.neg_mul]
  · obtain ⟨x, hx⟩ : ∃ x : Nat, a = (x : Int) := ⟨a.natAbs, by omega⟩
    obtain ⟨y, hy⟩ : ∃ y : Nat, b = -(y : Int) := ⟨b.natAbs, by omega⟩
    rw [if_pos (by have : ¬ a < 0 := by omega
                   simp [hb, this])]
    subst hx hy
    simp only [Int.natAbs_neg, Int.natAbs_natCast, Int.natCast_mul]
    rw [Int.mul_neg]
  · obtain ⟨x, hx⟩ : ∃ x : Nat, a = (x : Int) := ⟨a.natAbs, by omega⟩
    obtain ⟨y, hy⟩ : ∃ y : Nat, b = (y : Int) := ⟨b.natAbs, by omega⟩
    have h1 : ¬ a < 0 := by omega
    have h2 : ¬ b < 0 := by omega
    rw [if_neg (by simp [h1, h2])]
    subst hx hy
    simp only [Int.natAbs_natCast, Int.natCast_mul]
theorem times_law (a b hi lo : Int) (h1 : hi = ((a.natAbs * b.natAbs / 18446744073709551616 : Nat) : Int)) (h2 : lo = ((a.natAbs * b.natAbs % 18446744073709551616 : Nat) : Int)) :
    ((decide (a < 0) != decide (b < 0)) = true → hi = 0 → fit (a * b) = decide (lo ≤ 9223372036854775808)) ∧
    ((decide (a < 0) != decide (b < 0)) = false → hi = 0 → fit (a * b) = decide (lo < 9223372036854775808)) ∧ (hi ≠ 0 → fit (a * b) = false) := by
  have hm := mul_signs a b
  generalize a.natAbs * b.natAbs = p at *
  generalize a * b = m at *
  unfold fit
  refine ⟨fun h h0 => ?_, fun h h0 => ?_, fun h => ?_⟩
  · rw [h, if_pos rfl] at hm
    rw [Bool.eq_iff_iff]; simp; omega
  · rw [h] at hm
    simp only [Bool.false_eq_true, if_false] at hm
    rw [Bool.eq_iff_iff]; simp; omega
  · split at hm
    · simp; omega
    · simp; omega
set_option maxRecDepth 100000 in
set_option maxHeartbeats 1000000 in
theorem times_any (a b : Int) (ha : R64 a) (hb : R64 b) (w : World) : Calls Tryz.prog 173 #[.int .i64 a, .int .i64 b] w fun e w' => e = .returned (.tuple #[.int .i64 (wrap64 (a * b)), .bool (fit (a * b))]) ∧ w = w' := by
  have hx : a.natAbs < 18446744073709551616 := by unfold R64 at ha; omega
  have hy : b.natAbs < 18446744073709551616 := by unfold R64 at hb; omega
  obtain ⟨hi, h1⟩ : ∃ hi : Int, hi = ((a.natAbs * b.natAbs / 18446744073709551616 : Nat) : Int) := ⟨_, rfl⟩
  obtain ⟨lo, h2⟩ : ∃ lo : Int, lo = ((a.natAbs * b.natAbs % 18446744073709551616 : Nat) : Int) := ⟨_, rfl⟩
  have HL := hide (times_law a b hi lo h1 h2)
  have H1 := hide h1
  have H2 := hide h2
  have Ha := hide ha
  have Hb := hide hb
  have Hx := hide hx
  have Hy := hide hy
  clear h1 h2 ha hb hx hy
  go_enter Tryz.func173, Tryz.ntmps173
  go_wp2_with fail
  refine (tsize_any a Ha.out _).mono ?_
  rintro e w1 ⟨rfl, rfl⟩
  go_wp2_with fail
  refine (tsize_any b Hb.out _).mono ?_
  rintro e w1 ⟨rfl, rfl⟩
  go_wp2_with fail
  refine (Tryz.bits_Mul64 a.natAbs b.natAbs Hx.out Hy.out _).mono ?_
  rintro e w1 ⟨rfl, rfl⟩
  rw [← H1.out, ← H2.out]
  clear H1 H2 Ha Hb Hx Hy
  by_cases h1 : a < 0
  · by_cases h2 : b < 0
    · by_cases h0 : hi = 0
      · have hq : (hi == 0) = true := by simpa using h0
        have H := hide (HL.out.2.1 (by simp [h1, h2]) h0)
        clear HL h0
        go_wp2
        go_ret2
        exact ⟨by rw [H.out]; rfl, rfl⟩
      · have hq : (hi == 0) = false := by simpa using h0
        have H := hide (HL.out.2.2 h0)
        clear HL h0
        go_wp2
        go_ret2
        exact ⟨by rw [H.out]; rfl, rfl⟩
    · have d2 : decide (b < 0) = false := by simpa using h2
      by_cases h0 : hi = 0
      · have hq : (hi == 0) = true := by simpa using h0
        have H := hide (HL.out.1 (by simp [h1, h2]) h0)
        clear HL h0
        go_wp2
        go_ret2
        exact ⟨by rw [H.out]; rfl, rfl⟩
      · have hq : (hi == 0) = false := by simpa using h0
        have H := hide (HL.out.2.2 h0)
        clear HL h0
        go_wp2
        go_ret2
        exact ⟨by rw [H.out]; rfl, rfl⟩
  · have d1 : decide (a < 0) = false := by simpa using h1
    by_cases h2 : b < 0
    · by_cases h0 : hi = 0
      · have hq : (hi == 0) = true := by simpa using h0
        have H := hide (HL.out.1 (by simp [h1, h2]) h0)
        clear HL h0
        go_wp2
        go_ret2
        exact ⟨by rw [H.out]; rfl, rfl⟩
      · have hq : (hi == 0) = false := by simpa using h0
        have H := hide (HL.out.2.2 h0)
        clear HL h0
        go_wp2
        go_ret2
        exact ⟨by rw [H.out]; rfl, rfl⟩
    · have d2 : decide (b < 0) = false := by simpa using h2
      by_cases h0 : hi = 0
      · have hq : (hi == 0) = true := by simpa using h0
        have H := hide (HL.out.2.1 (by simp [h1, h2]) h0)
        clear HL h0
        go_wp2
        go_ret2
        exact ⟨by rw [H.out]; rfl, rfl⟩
      · have hq : (hi == 0) = false := by simpa using h0
        have H := hide (HL.out.2.2 h0)
        clear HL h0
        go_wp2
        go_ret2
        exact ⟨by rw [H.out]; rfl, rfl⟩
end Go.Proofs.YtmnmnnocgimcpaaGreatDoor
