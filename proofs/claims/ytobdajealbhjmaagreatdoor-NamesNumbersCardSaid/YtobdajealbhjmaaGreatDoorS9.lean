/- page.after, page.find. -/
import Derived.Test.YtobdajealbhjmaaGreatDoorMem
import Derived.Deep.QuietTactic
import Derived.BigQuiet
namespace Go.Proofs.YtobdajealbhjmaaGreatDoor
open Go.RowKit
theorem or_i64 (a b : Nat) (ha : a < 65536) (hb : b < 65536) : bits .or .i64 (a : Int) (b : Int) = ((a ||| b : Nat) : Int) := by
  have hx : a ||| b < 2 ^ 16 := Nat.or_lt_two_pow (by omega) (by omega)
  have h1 : (BitVec.ofInt 64 (a : Int)).toNat = a := by
    rw [BitVec.ofInt_natCast, BitVec.toNat_ofNat]; exact Nat.mod_eq_of_lt (by omega)
  have h2 : (BitVec.ofInt 64 (b : Int)).toNat = b := by
    rw [BitVec.ofInt_natCast, BitVec.toNat_ofNat]; exact Nat.mod_eq_of_lt (by omega)
  show IntKind.i64.wrap ((BitVec.ofInt 64 (a : Int) ||| BitVec.ofInt 64 (b : Int)).toNat : Int) = _
  rw [BitVec.toNat_or, h1, h2, IntKind.wrap_i64]
  omega
def aftN (x : Nat → Nat) (len p : Nat) : Nat := if p + 2 ≤ len then (if p + 2 + (x p * 256 ||| x (p + 1)) ≤ len then p + 2 + (x p * 256 ||| x (p + 1)) else 0) else 0
set_option maxRecDepth 100000 in
set_option maxHeartbeats 800000 in
theorem after_any (g off len cap p : Nat) (x : Nat → Nat) (w : World) (hx : ∀ i, x i < 256) (hb : len ≤ 512) (hp : p ≤ 600) (hc : ∀ i, i < len → w.cell? ⟨g, off + i, none⟩ = some (.int .u8 (x i : Int))) :
    Calls Tryz.prog 147 #[.slice (some ⟨g, off, none⟩) len cap, .int .i64 (p : Int)] w fun e w' => e = .returned (.int .i64 (aftN x len p : Nat)) ∧ ∃ d, w' = { w with drawn := d } := by
  have hw : IntKind.i64.wrap ((p : Int) + 2) = (p : Int) + 2 := by rw [IntKind.wrap_i64]; omega
  have hw1 : IntKind.i64.wrap ((p : Int) + 1) = (p : Int) + 1 := by rw [IntKind.wrap_i64]; omega
  by_cases h1 : p + 2 ≤ len
  · have e1 : decide ((len : Int) < (p : Int) + 2) = false := by simp; omega
    have c0 := hc p (by omega)
    have c1 := hc (p + 1) (by omega)
    have i0 : (p : Int) < (len : Int) := by omega
    have i1 : (p : Int) + 1 < (len : Int) := by omega
    have t1 : ((p : Int) + 1).toNat = p + 1 := by omega
    have p0 : (0 : Int) ≤ (p : Int) + 1 := by omega
    have a0 := hx p
    have a1 := hx (p + 1)
    have hlt : x p * 256 ||| x (p + 1) < 2 ^ 16 := Nat.or_lt_two_pow (by omega) (by omega)
    obtain ⟨z, hz⟩ : ∃ z, z = x p * 256 := ⟨_, rfl⟩
    obtain ⟨q, hq⟩ : ∃ q, q = z ||| x (p + 1) := ⟨_, rfl⟩
    obtain ⟨y, hy⟩ : ∃ y, y = p + 2 + q := ⟨_, rfl⟩
    have hw2 : IntKind.i64.wrap (x p : Int) = (x p : Int) := by rw [IntKind.wrap_i64]; omega
    have hw3 : IntKind.i64.wrap ((x p : Int) * 256) = (z : Int) := by rw [IntKind.wrap_i64]; omega
    have hw4 : IntKind.i64.wrap (x (p + 1) : Int) = (x (p + 1) : Int) := by rw [IntKind.wrap_i64]; omega
    have hw5 : bits .or .i64 (z : Int) (x (p + 1) : Int) = (q : Int) := by rw [hq]; exact or_i64 _ _ (by omega) (by omega)
    have hq2 : q < 65536 := by rw [hq, hz]; exact hlt
    have hw6 : IntKind.i64.wrap ((p : Int) + 2 + (q : Int)) = (y : Int) := by rw [IntKind.wrap_i64]; omega
    rw [hz] at hq
    rw [hq] at hy
    clear hq hz hlt a0 a1 hq2
    by_cases h2 : y ≤ len
    · have e2 : decide (len < y) = false := by simp; omega
      have H : Hid (aftN x len p = y) := (by unfold aftN; rw [if_pos h1, ← hy, if_pos h2] : aftN x len p = y)
      clear hc hx hy h2
      go_enter Tryz.func147, Tryz.ntmps147
      go_wp2_with (go_quiet (fail))
      go_ret
      exact ⟨by rw [H.out]; rfl, _, rfl⟩
    · have e2 : decide (len < y) = true := by simp; omega
      have H : Hid (aftN x len p = 0) := (by unfold aftN; rw [if_pos h1, ← hy, if_neg h2] : aftN x len p = 0)
      clear hc hx hy h2
      go_enter Tryz.func147, Tryz.ntmps147
      go_wp2_with (go_quiet (fail))
      go_ret
      exact ⟨by rw [H.out]; rfl, _, rfl⟩
  · have e1 : decide ((len : Int) < (p : Int) + 2) = true := by simp; omega
    have H : Hid (aftN x len p = 0) := (by unfold aftN; rw [if_neg h1] : aftN x len p = 0)
    clear hc hx
    go_enter Tryz.func147, Tryz.ntmps147
    go_wp2
    go_ret
    exact ⟨by rw [H.out]; rfl, w.drawn, rfl⟩
/-- where a slot begins -/
def findN (x : Nat → Nat) (len : Nat) : Nat → Nat
  | 0 => 6
  | k + 1 => if findN x len k = 0 then 0 else aftN x len (findN x len k)
theorem aftN_le (x : Nat → Nat) (len p : Nat) : aftN x len p ≤ len := by
  unfold aftN; split
  · split <;> omega
  · omega
theorem findN_le (x : Nat → Nat) (len : Nat) : ∀ k, findN x len k ≤ len + 6
  | 0 => by simp [findN]
  | k + 1 => by
    simp only [findN]
    split
    · omega
    · have := aftN_le x len (findN x len k); omega
theorem findN_zero (x : Nat → Nat) (len : Nat) (k : Nat) (h : findN x len k = 0) : ∀ n, k ≤ n → findN x len n = 0
  | 0, hk => by obtain rfl : k = 0 := by omega
                exact h
  | n + 1, hk => by
    by_cases e : k = n + 1
    · rw [← e]; exact h
    · rw [findN, if_pos (findN_zero x len k h n (by omega))]
set_option maxRecDepth 100000 in
set_option maxHeartbeats 800000 in
theorem find_any (g off len cap n : Nat) (x : Nat → Nat) (w : World) (hx : ∀ i, x i < 256) (hb : len ≤ 512) (hn : n ≤ 300) (hc : ∀ i, i < len → w.cell? ⟨g, off + i, none⟩ = some (.int .u8 (x i : Int))) :
    Calls Tryz.prog 145 #[.slice (some ⟨g, off, none⟩) len cap, .int .i64 (n : Int)] w fun e w' => e = .returned (.int .i64 (findN x len n : Nat)) ∧ ∃ d, w' = { w with drawn := d } := by
  have HX := hide hx
  have HC := hide hc
  clear hx hc
  go_enter Tryz.func145, Tryz.ntmps145
  go_wp2
  go_loopw [5, 7] (fun v5 v7 wr => ∃ k d : Nat, k ≤ n ∧ v7 = .int .i64 (k : Int) ∧ v5 = .int .i64 (findN x len k : Nat) ∧ findN x len k ≠ 0 ∧ wr = { w with drawn := d }) (fun _ v _ => match v with | .int _ k => n - k.toNat | _ => 0)
  case atStart => exact ⟨0, w.drawn, by omega, rfl, rfl, by simp [findN], rfl⟩
  case round =>
    obtain ⟨k, d, hk, rfl, rfl, h0, rfl⟩ := hrel
    by_cases h : k < n
    · have e1 : decide (k < n) = true := by simp; omega
      have hw : IntKind.i64.wrap ((k : Int) + 1) = ((k + 1 : Nat) : Int) := by rw [IntKind.wrap_i64]; omega
      have HA := hide (after_any g off len cap (findN x len k) x { w with drawn := d } HX.out hb (by have := findN_le x len k; omega) (fun i hi => HC.out i hi))
      obtain ⟨z, hz⟩ : ∃ z, z = aftN x len (findN x len k) := ⟨_, rfl⟩
      rw [← hz] at HA
      have hs : findN x len (k + 1) = z := by rw [findN, if_neg h0, hz]
      have HS := hide hs
      have hlast : z = 0 → findN x len n = 0 := fun e => findN_zero x len (k + 1) (by rw [hs, e]) n (by omega)
      clear hs hz h0
      by_cases hz : z = 0
      · have HL := hide (hlast hz)
        subst hz
        clear hlast
        go_wp2_with (go_at_call 147; refine HA.out.mono ?_; rintro e w' ⟨rfl, d', rfl⟩)
        go_ret
        exact ⟨by rw [HL.out]; rfl, _, rfl⟩
      · have e2 : ((z : Int) == 0) = false := by simp; omega
        have HZ := hide hz
        clear hz hlast
        go_wp2_with (go_at_call 147; refine HA.out.mono ?_; rintro e w' ⟨rfl, d', rfl⟩)
        case roundEnd =>
          refine ⟨⟨k + 1, d', by omega, rfl, by rw [HS.out], by rw [HS.out]; exact HZ.out, rfl⟩, ?_⟩
          simp
          omega
    · have e1 : decide (k < n) = false := by simp; omega
      have H : Hid (findN x len k = findN x len n) := (by rw [show k = n by omega] : findN x len k = findN x len n)
      clear h0
      go_wp2
      go_ret
      exact ⟨by rw [H.out]; rfl, _, rfl⟩
end Go.Proofs.YtobdajealbhjmaaGreatDoor
