/- The reference on texts (ref05): Char, Next, Texts. -/
import Derived.Test.YtmnmnnocgimcpaaGreatDoorHU
namespace Go.Proofs.YtmnmnnocgimcpaaGreatDoor
open Go.RowKit
/-- a byte of a text -/
theorem run_sx (s : ByteArray) (k : Nat) (hk : k < s.size) (z : Int) (hz : z = (k : Int)) (W : World) : (Instr.index 9 (.string s) (.int .i64 z)).run Tryz.prog W = .ok (.int .u8 (bt s k)) W := by
  subst hz
  rw [run_index_string W 9 s .i64 _ Tryz.underlying9, dif_pos ⟨by omega, by omega⟩]
  have e : ((k : Int)).toNat = k := by omega
  simp only [e]
  rw [bt_get]
def win (r a b : Int) : Bool := decide (a ≤ r) && decide (r ≤ b)
theorem win_yes {r a b : Int} (h : win r a b = true) : a ≤ r ∧ r ≤ b := by unfold win at h; simpa using h
theorem win_no {r a b : Int} (h : win r a b = false) : ¬ (a ≤ r ∧ r ≤ b) := by
  rintro ⟨h1, h2⟩
  unfold win at h
  simp [h1, h2] at h
set_option maxRecDepth 100000 in
set_option maxHeartbeats 400000 in
theorem within_any (r a b : Int) (w : World) : Calls Tryz.prog 143 #[.int .i32 r, .int .i32 a, .int .i32 b] w fun e w' => e = .returned (.bool (win r a b)) ∧ w = w' := by
  by_cases h1 : a ≤ r
  · by_cases h2 : r ≤ b
    · have H : Hid (win r a b = true) := by show _ = _; simp [win, h1, h2]
      go_enter Tryz.func143, Tryz.ntmps143
      go_wp2
      go_ret
      exact ⟨by rw [H.out]; rfl, rfl⟩
    · have H : Hid (win r a b = false) := by show _ = _; simp [win, h2]
      have h2d : decide (r ≤ b) = false := by simpa using h2
      go_enter Tryz.func143, Tryz.ntmps143
      go_wp2
      go_ret
      exact ⟨by rw [H.out]; rfl, rfl⟩
  · have H : Hid (win r a b = false) := by show _ = _; simp [win, h1]
    have h1d : decide (a ≤ r) = false := by simpa using h1
    go_enter Tryz.func143, Tryz.ntmps143
    go_wp2
    go_ret
    exact ⟨by rw [H.out]; rfl, rfl⟩
theorem rchr_win (r : Nat) : rchr r = (decide ((r : Int) = 9) || (decide ((r : Int) = 10) || (decide ((r : Int) = 13) || (win r 32 55295 || (win r 57344 65533 || win r 65536 1114111))))) := by
  unfold rchr win
  rw [Bool.eq_iff_iff]
  simp only [Bool.or_eq_true, Bool.and_eq_true, decide_eq_true_eq]
  omega
set_option maxRecDepth 100000 in
set_option maxHeartbeats 2000000 in
theorem rchar_any (r : Nat) (w : World) : Calls Tryz.prog 181 #[.int .i32 (r : Int)] w fun e w' => e = .returned (.bool (rchr r)) ∧ w = w' := by
  have hw := rchr_win r
  generalize (r : Int) = z at *
  by_cases h9 : z = 9
  · have f : (z == 9) = true := by simpa using h9
    have H : Hid (rchr r = true) := by show _ = _; rw [hw]; simp [h9]
    clear h9 hw
    go_enter Tryz.func181, Tryz.ntmps181
    go_wp2_with (go_at_call 143; refine (within_any _ _ _ _).mono ?_; rintro e w' ⟨rfl, rfl⟩)
    go_ret
    exact ⟨by rw [H.out]; rfl, rfl⟩
  have f9 : (z == 9) = false := by simpa using h9
  by_cases h10 : z = 10
  · have f : (z == 10) = true := by simpa using h10
    have H : Hid (rchr r = true) := by show _ = _; rw [hw]; simp [h10]
    clear h9 h10 hw
    go_enter Tryz.func181, Tryz.ntmps181
    go_wp2_with (go_at_call 143; refine (within_any _ _ _ _).mono ?_; rintro e w' ⟨rfl, rfl⟩)
    go_ret
    exact ⟨by rw [H.out]; rfl, rfl⟩
  have f10 : (z == 10) = false := by simpa using h10
  by_cases h13 : z = 13
  · have f : (z == 13) = true := by simpa using h13
    have H : Hid (rchr r = true) := by show _ = _; rw [hw]; simp [h13]
    clear h9 h10 h13 hw
    go_enter Tryz.func181, Tryz.ntmps181
    go_wp2_with (go_at_call 143; refine (within_any _ _ _ _).mono ?_; rintro e w' ⟨rfl, rfl⟩)
    go_ret
    exact ⟨by rw [H.out]; rfl, rfl⟩
  have f13 : (z == 13) = false := by simpa using h13
  rcases Bool.eq_false_or_eq_true (win z 32 55295) with a1 | a1
  · have H : Hid (rchr r = true) := by show _ = _; rw [hw, a1]; simp
    clear h9 h10 h13 hw
    go_enter Tryz.func181, Tryz.ntmps181
    go_wp2_with (go_at_call 143; refine (within_any _ _ _ _).mono ?_; rintro e w' ⟨rfl, rfl⟩)
    go_ret
    exact ⟨by rw [H.out]; rfl, rfl⟩
  rcases Bool.eq_false_or_eq_true (win z 57344 65533) with a2 | a2
  · have H : Hid (rchr r = true) := by show _ = _; rw [hw, a2]; simp
    clear h9 h10 h13 hw
    go_enter Tryz.func181, Tryz.ntmps181
    go_wp2_with (go_at_call 143; refine (within_any _ _ _ _).mono ?_; rintro e w' ⟨rfl, rfl⟩)
    go_ret
    exact ⟨by rw [H.out]; rfl, rfl⟩
  have H : Hid (rchr r = win z 65536 1114111) := by show _ = _; rw [hw, a1, a2]; simp [h9, h10, h13]
  clear h9 h10 h13 hw
  go_enter Tryz.func181, Tryz.ntmps181
  go_wp2_with (go_at_call 143; refine (within_any _ _ _ _).mono ?_; rintro e w' ⟨rfl, rfl⟩)
  go_ret
  exact ⟨by rw [H.out]; rfl, rfl⟩
theorem ret_nx {a m : Int} {c d : Nat} (h : a = (c : Int)) (h2 : m = (d : Int)) : Ending.returned (.tuple #[.int .i32 a, .int .i64 m]) = .returned (.tuple #[.int .i32 (c : Int), .int .i64 (d : Int)]) := by rw [h, h2]
theorem nxt_of {s : ByteArray} {k n0 n1 n2 n3 : Nat} (e0 : bt s k = n0) (e1 : bt s (k + 1) = n1) (e2 : bt s (k + 2) = n2) (e3 : bt s (k + 3) = n3) : nxt s k = nxN (s.size - k) n0 n1 n2 n3 := by
  unfold nxt
  rw [e0, e1, e2, e3]
  simp only [Int.toNat_natCast]
set_option maxRecDepth 100000 in
set_option maxHeartbeats 8000000 in
theorem rnext_any (s : ByteArray) (k : Nat) (hk : k < s.size) (hs : s.size ≤ 140737488355328) (w : World) :
    Calls Tryz.prog 90 #[.string s, .int .i64 k] w fun e w' => e = .returned (.tuple #[.int .i32 ((nxt s k).1 : Nat), .int .i64 ((nxt s k).2 : Nat)]) ∧ w = w' := by
  obtain ⟨n0, l0, e0⟩ := bt_nat s k
  obtain ⟨n1, l1, e1⟩ := bt_nat s (k + 1)
  obtain ⟨n2, l2, e2⟩ := bt_nat s (k + 2)
  obtain ⟨n3, l3, e3⟩ := bt_nat s (k + 3)
  have hN := nxt_of e0 e1 e2 e3
  have hx0 := run_sx s k hk k rfl
  rw [e0] at hx0
  by_cases c1 : n0 < 128
  · have HR : Hid (nxt s k = (n0, 1)) := by show _ = _; rw [hN, nx1 c1]
    have i1 : (n0 : Int) < 128 := by omega
    clear hN e0 e1 e2 e3 c1
    go_enter Tryz.func90, Tryz.ntmps90
    go_wp2
    go_ret2
    exact ⟨by rw [HR.out]; rfl, rfl⟩
  have i1 : decide ((n0 : Int) < 128) = false := by simp; omega
  by_cases c0 : n0 < 194
  · have HR : Hid (nxt s k = (0, 0)) := by show _ = _; rw [hN, nx0 c1 (.inl c0)]
    have i2 : decide (194 ≤ (n0 : Int)) = false := by simp; omega
    have i3 : decide (224 ≤ (n0 : Int)) = false := by simp; omega
    have i4 : decide (240 ≤ (n0 : Int)) = false := by simp; omega
    clear hN e0 e1 e2 e3 c1 c0
    go_enter Tryz.func90, Tryz.ntmps90
    go_wp2
    go_ret2
    exact ⟨by rw [HR.out]; rfl, rfl⟩
  have i2 : 194 ≤ (n0 : Int) := by omega
  by_cases c5 : 244 < n0
  · have HR : Hid (nxt s k = (0, 0)) := by show _ = _; rw [hN, nx0 c1 (.inr (by omega))]
    have i3 : decide ((n0 : Int) ≤ 223) = false := by simp; omega
    have i4 : 224 ≤ (n0 : Int) := by omega
    have i5 : decide ((n0 : Int) ≤ 239) = false := by simp; omega
    have i6 : 240 ≤ (n0 : Int) := by omega
    have i7 : decide ((n0 : Int) ≤ 244) = false := by simp; omega
    clear hN e0 e1 e2 e3 c1 c0
    go_enter Tryz.func90, Tryz.ntmps90
    go_wp2
    go_ret2
    exact ⟨by rw [HR.out]; rfl, rfl⟩
  have cc := c5
  by_cases c2 : n0 ≤ 223
  · have i3 : (n0 : Int) ≤ 223 := by omega
    by_cases cs : s.size < k + 2
    · skip
      have HR : Hid (nxt s k = (0, 0)) := by show _ = _; rw [hN, nx2 (by omega), if_pos (by omega)]
      have i9 : (s.size : Int) < (k : Int) + 2 := by omega
      clear hN e0 e1 e2 e3 c1 c0 cc
      go_enter Tryz.func90, Tryz.ntmps90
      go_wp2
      go_ret2
      exact ⟨by rw [HR.out]; exact ret_nx (by dsimp only; omega) rfl, rfl⟩
    have i9 : decide ((s.size : Int) < (k : Int) + 2) = false := by simp; omega
    have hx1 := run_sx s (k + 1) (by omega) ((k : Int) + 1) (by omega)
    rw [e1] at hx1
    by_cases d1 : n1 < 128
    · skip
      have HR : Hid (nxt s k = (0, 0)) := by show _ = _; rw [hN, nx2 (by omega), if_pos (by omega)]
      have j1 : (n1 : Int) < 128 := by omega
      clear hN e0 e1 e2 e3 c1 c0 cc
      go_enter Tryz.func90, Tryz.ntmps90
      go_wp2_with fail
      refine wp_loop_rounds 5 ?_
      rw [rounds_succ]
      go_wp2
      go_ret2
      exact ⟨by rw [HR.out]; exact ret_nx (by dsimp only; omega) rfl, rfl⟩
    have j1 : decide ((n1 : Int) < 128) = false := by simp; omega
    by_cases g1 : 191 < n1
    · skip
      have HR : Hid (nxt s k = (0, 0)) := by show _ = _; rw [hN, nx2 (by omega), if_pos (by omega)]
      have h1 : 191 < (n1 : Int) := by omega
      clear hN e0 e1 e2 e3 c1 c0 cc
      go_enter Tryz.func90, Tryz.ntmps90
      go_wp2_with fail
      refine wp_loop_rounds 5 ?_
      rw [rounds_succ]
      go_wp2
      go_ret2
      exact ⟨by rw [HR.out]; exact ret_nx (by dsimp only; omega) rfl, rfl⟩
    have h1 : decide (191 < (n1 : Int)) = false := by simp; omega
    have HR : Hid (nxt s k = ((n0 - 192) * 64 + (n1 - 128), 2)) := by show _ = _; rw [hN, nx2 (by omega), if_neg (by omega)]
    clear hN e0 e1 e2 e3 c1 c0 cc
    go_enter Tryz.func90, Tryz.ntmps90
    go_wp2_with fail
    refine wp_loop_rounds 5 ?_
    rw [rounds_succ]
    go_wp2_with fail
    rw [rounds_succ]
    go_wp2
    go_ret2
    exact ⟨by rw [HR.out]; exact ret_nx (by dsimp only; omega) rfl, rfl⟩
  have i3 : decide ((n0 : Int) ≤ 223) = false := by simp; omega
  have i4 : 224 ≤ (n0 : Int) := by omega
  by_cases c3 : n0 ≤ 239
  · have i5 : (n0 : Int) ≤ 239 := by omega
    by_cases cs : s.size < k + 3
    · skip
      have HR : Hid (nxt s k = (0, 0)) := by show _ = _; rw [hN, nx3 (by omega), if_pos (by omega)]
      have i9 : (s.size : Int) < (k : Int) + 3 := by omega
      clear hN e0 e1 e2 e3 c1 c0 cc
      go_enter Tryz.func90, Tryz.ntmps90
      go_wp2
      go_ret2
      exact ⟨by rw [HR.out]; exact ret_nx (by dsimp only; omega) rfl, rfl⟩
    have i9 : decide ((s.size : Int) < (k : Int) + 3) = false := by simp; omega
    have hx1 := run_sx s (k + 1) (by omega) ((k : Int) + 1) (by omega)
    rw [e1] at hx1
    have hx2 := run_sx s (k + 2) (by omega) ((k : Int) + 2) (by omega)
    rw [e2] at hx2
    by_cases d1 : n1 < 128
    · skip
      have HR : Hid (nxt s k = (0, 0)) := by show _ = _; rw [hN, nx3 (by omega), if_pos (by omega)]
      have j1 : (n1 : Int) < 128 := by omega
      clear hN e0 e1 e2 e3 c1 c0 cc
      go_enter Tryz.func90, Tryz.ntmps90
      go_wp2_with fail
      refine wp_loop_rounds 5 ?_
      rw [rounds_succ]
      go_wp2
      go_ret2
      exact ⟨by rw [HR.out]; exact ret_nx (by dsimp only; omega) rfl, rfl⟩
    have j1 : decide ((n1 : Int) < 128) = false := by simp; omega
    by_cases g1 : 191 < n1
    · skip
      have HR : Hid (nxt s k = (0, 0)) := by show _ = _; rw [hN, nx3 (by omega), if_pos (by omega)]
      have h1 : 191 < (n1 : Int) := by omega
      clear hN e0 e1 e2 e3 c1 c0 cc
      go_enter Tryz.func90, Tryz.ntmps90
      go_wp2_with fail
      refine wp_loop_rounds 5 ?_
      rw [rounds_succ]
      go_wp2
      go_ret2
      exact ⟨by rw [HR.out]; exact ret_nx (by dsimp only; omega) rfl, rfl⟩
    have h1 : decide (191 < (n1 : Int)) = false := by simp; omega
    by_cases d2 : n2 < 128
    · skip
      have HR : Hid (nxt s k = (0, 0)) := by show _ = _; rw [hN, nx3 (by omega), if_pos (by omega)]
      have j2 : (n2 : Int) < 128 := by omega
      clear hN e0 e1 e2 e3 c1 c0 cc
      go_enter Tryz.func90, Tryz.ntmps90
      go_wp2_with fail
      refine wp_loop_rounds 5 ?_
      rw [rounds_succ]
      go_wp2_with fail
      rw [rounds_succ]
      go_wp2
      go_ret2
      exact ⟨by rw [HR.out]; exact ret_nx (by dsimp only; omega) rfl, rfl⟩
    have j2 : decide ((n2 : Int) < 128) = false := by simp; omega
    by_cases g2 : 191 < n2
    · skip
      have HR : Hid (nxt s k = (0, 0)) := by show _ = _; rw [hN, nx3 (by omega), if_pos (by omega)]
      have h2 : 191 < (n2 : Int) := by omega
      clear hN e0 e1 e2 e3 c1 c0 cc
      go_enter Tryz.func90, Tryz.ntmps90
      go_wp2_with fail
      refine wp_loop_rounds 5 ?_
      rw [rounds_succ]
      go_wp2_with fail
      rw [rounds_succ]
      go_wp2
      go_ret2
      exact ⟨by rw [HR.out]; exact ret_nx (by dsimp only; omega) rfl, rfl⟩
    have h2 : decide (191 < (n2 : Int)) = false := by simp; omega
    by_cases r1 : 64 * (64 * ((n0 : Int) - 224) + (n1 : Int) - 128) + (n2 : Int) - 128 < 2048
    · skip
      have HR : Hid (nxt s k = (0, 0)) := by show _ = _; rw [hN, nx3 (by omega), if_pos (by omega)]
      clear hN e0 e1 e2 e3 c1 c0 cc
      go_enter Tryz.func90, Tryz.ntmps90
      go_wp2_with fail
      refine wp_loop_rounds 5 ?_
      rw [rounds_succ]
      go_wp2_with fail
      rw [rounds_succ]
      go_wp2_with fail
      rw [rounds_succ]
      go_wp2
      go_ret2
      exact ⟨by rw [HR.out]; exact ret_nx (by dsimp only; omega) rfl, rfl⟩
    have r1d : decide (64 * (64 * ((n0 : Int) - 224) + (n1 : Int) - 128) + (n2 : Int) - 128 < 2048) = false := by simp; omega
    rcases Bool.eq_false_or_eq_true (win (64 * (64 * ((n0 : Int) - 224) + (n1 : Int) - 128) + (n2 : Int) - 128) 55296 57343) with r2 | r2
    · have r3 : 55296 ≤ 64 * (64 * ((n0 : Int) - 224) + (n1 : Int) - 128) + (n2 : Int) - 128 ∧ 64 * (64 * ((n0 : Int) - 224) + (n1 : Int) - 128) + (n2 : Int) - 128 ≤ 57343 := win_yes r2
      have HR : Hid (nxt s k = (0, 0)) := by show _ = _; rw [hN, nx3 (by omega), if_pos (by omega)]
      clear r3
      clear hN e0 e1 e2 e3 c1 c0 cc
      go_enter Tryz.func90, Tryz.ntmps90
      go_wp2_with fail
      refine wp_loop_rounds 5 ?_
      rw [rounds_succ]
      go_wp2_with fail
      rw [rounds_succ]
      go_wp2_with fail
      rw [rounds_succ]
      go_wp2_with (go_at_call 143; refine (within_any _ _ _ _).mono ?_; rintro e w' ⟨rfl, rfl⟩)
      go_ret2
      exact ⟨by rw [HR.out]; exact ret_nx (by dsimp only; omega) rfl, rfl⟩
    have r3 : ¬ (55296 ≤ 64 * (64 * ((n0 : Int) - 224) + (n1 : Int) - 128) + (n2 : Int) - 128 ∧ 64 * (64 * ((n0 : Int) - 224) + (n1 : Int) - 128) + (n2 : Int) - 128 ≤ 57343) := win_no r2
    have HR : Hid (nxt s k = ((n0 - 224) * 4096 + (n1 - 128) * 64 + (n2 - 128), 3)) := by show _ = _; rw [hN, nx3 (by omega), if_neg (by omega)]
    clear r3
    clear hN e0 e1 e2 e3 c1 c0 cc
    go_enter Tryz.func90, Tryz.ntmps90
    go_wp2_with fail
    refine wp_loop_rounds 5 ?_
    rw [rounds_succ]
    go_wp2_with fail
    rw [rounds_succ]
    go_wp2_with fail
    rw [rounds_succ]
    go_wp2_with (go_at_call 143; refine (within_any _ _ _ _).mono ?_; rintro e w' ⟨rfl, rfl⟩)
    go_ret2
    exact ⟨by rw [HR.out]; exact ret_nx (by dsimp only; omega) rfl, rfl⟩
  have i5 : decide ((n0 : Int) ≤ 239) = false := by simp; omega
  have i6 : 240 ≤ (n0 : Int) := by omega
  have i7 : (n0 : Int) ≤ 244 := by omega
  by_cases cs : s.size < k + 4
  · skip
    have HR : Hid (nxt s k = (0, 0)) := by show _ = _; rw [hN, nx4 (by omega), if_pos (by omega)]
    have i9 : (s.size : Int) < (k : Int) + 4 := by omega
    clear hN e0 e1 e2 e3 c1 c0 cc
    go_enter Tryz.func90, Tryz.ntmps90
    go_wp2
    go_ret2
    exact ⟨by rw [HR.out]; exact ret_nx (by dsimp only; omega) rfl, rfl⟩
  have i9 : decide ((s.size : Int) < (k : Int) + 4) = false := by simp; omega
  have hx1 := run_sx s (k + 1) (by omega) ((k : Int) + 1) (by omega)
  rw [e1] at hx1
  have hx2 := run_sx s (k + 2) (by omega) ((k : Int) + 2) (by omega)
  rw [e2] at hx2
  have hx3 := run_sx s (k + 3) (by omega) ((k : Int) + 3) (by omega)
  rw [e3] at hx3
  by_cases d1 : n1 < 128
  · skip
    have HR : Hid (nxt s k = (0, 0)) := by show _ = _; rw [hN, nx4 (by omega), if_pos (by omega)]
    have j1 : (n1 : Int) < 128 := by omega
    clear hN e0 e1 e2 e3 c1 c0 cc
    go_enter Tryz.func90, Tryz.ntmps90
    go_wp2_with fail
    refine wp_loop_rounds 5 ?_
    rw [rounds_succ]
    go_wp2
    go_ret2
    exact ⟨by rw [HR.out]; exact ret_nx (by dsimp only; omega) rfl, rfl⟩
  have j1 : decide ((n1 : Int) < 128) = false := by simp; omega
  by_cases g1 : 191 < n1
  · skip
    have HR : Hid (nxt s k = (0, 0)) := by show _ = _; rw [hN, nx4 (by omega), if_pos (by omega)]
    have h1 : 191 < (n1 : Int) := by omega
    clear hN e0 e1 e2 e3 c1 c0 cc
    go_enter Tryz.func90, Tryz.ntmps90
    go_wp2_with fail
    refine wp_loop_rounds 5 ?_
    rw [rounds_succ]
    go_wp2
    go_ret2
    exact ⟨by rw [HR.out]; exact ret_nx (by dsimp only; omega) rfl, rfl⟩
  have h1 : decide (191 < (n1 : Int)) = false := by simp; omega
  by_cases d2 : n2 < 128
  · skip
    have HR : Hid (nxt s k = (0, 0)) := by show _ = _; rw [hN, nx4 (by omega), if_pos (by omega)]
    have j2 : (n2 : Int) < 128 := by omega
    clear hN e0 e1 e2 e3 c1 c0 cc
    go_enter Tryz.func90, Tryz.ntmps90
    go_wp2_with fail
    refine wp_loop_rounds 5 ?_
    rw [rounds_succ]
    go_wp2_with fail
    rw [rounds_succ]
    go_wp2
    go_ret2
    exact ⟨by rw [HR.out]; exact ret_nx (by dsimp only; omega) rfl, rfl⟩
  have j2 : decide ((n2 : Int) < 128) = false := by simp; omega
  by_cases g2 : 191 < n2
  · skip
    have HR : Hid (nxt s k = (0, 0)) := by show _ = _; rw [hN, nx4 (by omega), if_pos (by omega)]
    have h2 : 191 < (n2 : Int) := by omega
    clear hN e0 e1 e2 e3 c1 c0 cc
    go_enter Tryz.func90, Tryz.ntmps90
    go_wp2_with fail
    refine wp_loop_rounds 5 ?_
    rw [rounds_succ]
    go_wp2_with fail
    rw [rounds_succ]
    go_wp2
    go_ret2
    exact ⟨by rw [HR.out]; exact ret_nx (by dsimp only; omega) rfl, rfl⟩
  have h2 : decide (191 < (n2 : Int)) = false := by simp; omega
  by_cases d3 : n3 < 128
  · skip
    have HR : Hid (nxt s k = (0, 0)) := by show _ = _; rw [hN, nx4 (by omega), if_pos (by omega)]
    have j3 : (n3 : Int) < 128 := by omega
    clear hN e0 e1 e2 e3 c1 c0 cc
    go_enter Tryz.func90, Tryz.ntmps90
    go_wp2_with fail
    refine wp_loop_rounds 5 ?_
    rw [rounds_succ]
    go_wp2_with fail
    rw [rounds_succ]
    go_wp2_with fail
    rw [rounds_succ]
    go_wp2
    go_ret2
    exact ⟨by rw [HR.out]; exact ret_nx (by dsimp only; omega) rfl, rfl⟩
  have j3 : decide ((n3 : Int) < 128) = false := by simp; omega
  by_cases g3 : 191 < n3
  · skip
    have HR : Hid (nxt s k = (0, 0)) := by show _ = _; rw [hN, nx4 (by omega), if_pos (by omega)]
    have h3 : 191 < (n3 : Int) := by omega
    clear hN e0 e1 e2 e3 c1 c0 cc
    go_enter Tryz.func90, Tryz.ntmps90
    go_wp2_with fail
    refine wp_loop_rounds 5 ?_
    rw [rounds_succ]
    go_wp2_with fail
    rw [rounds_succ]
    go_wp2_with fail
    rw [rounds_succ]
    go_wp2
    go_ret2
    exact ⟨by rw [HR.out]; exact ret_nx (by dsimp only; omega) rfl, rfl⟩
  have h3 : decide (191 < (n3 : Int)) = false := by simp; omega
  by_cases r1 : 64 * (64 * (64 * ((n0 : Int) - 240) + (n1 : Int) - 128) + (n2 : Int) - 128) + (n3 : Int) - 128 < 65536
  · skip
    have HR : Hid (nxt s k = (0, 0)) := by show _ = _; rw [hN, nx4 (by omega), if_pos (by omega)]
    clear hN e0 e1 e2 e3 c1 c0 cc
    go_enter Tryz.func90, Tryz.ntmps90
    go_wp2_with fail
    refine wp_loop_rounds 5 ?_
    rw [rounds_succ]
    go_wp2_with fail
    rw [rounds_succ]
    go_wp2_with fail
    rw [rounds_succ]
    go_wp2_with fail
    rw [rounds_succ]
    go_wp2
    go_ret2
    exact ⟨by rw [HR.out]; exact ret_nx (by dsimp only; omega) rfl, rfl⟩
  have r1d : decide (64 * (64 * (64 * ((n0 : Int) - 240) + (n1 : Int) - 128) + (n2 : Int) - 128) + (n3 : Int) - 128 < 65536) = false := by simp; omega
  by_cases r2 : 1114111 < 64 * (64 * (64 * ((n0 : Int) - 240) + (n1 : Int) - 128) + (n2 : Int) - 128) + (n3 : Int) - 128
  · skip
    have HR : Hid (nxt s k = (0, 0)) := by show _ = _; rw [hN, nx4 (by omega), if_pos (by omega)]
    clear hN e0 e1 e2 e3 c1 c0 cc
    go_enter Tryz.func90, Tryz.ntmps90
    go_wp2_with fail
    refine wp_loop_rounds 5 ?_
    rw [rounds_succ]
    go_wp2_with fail
    rw [rounds_succ]
    go_wp2_with fail
    rw [rounds_succ]
    go_wp2_with fail
    rw [rounds_succ]
    go_wp2
    go_ret2
    exact ⟨by rw [HR.out]; exact ret_nx (by dsimp only; omega) rfl, rfl⟩
  have r2d : decide (1114111 < 64 * (64 * (64 * ((n0 : Int) - 240) + (n1 : Int) - 128) + (n2 : Int) - 128) + (n3 : Int) - 128) = false := by simp; omega
  have HR : Hid (nxt s k = ((n0 - 240) * 262144 + (n1 - 128) * 4096 + (n2 - 128) * 64 + (n3 - 128), 4)) := by show _ = _; rw [hN, nx4 (by omega), if_neg (by omega)]
  clear hN e0 e1 e2 e3 c1 c0 cc
  go_enter Tryz.func90, Tryz.ntmps90
  go_wp2_with fail
  refine wp_loop_rounds 5 ?_
  rw [rounds_succ]
  go_wp2_with fail
  rw [rounds_succ]
  go_wp2_with fail
  rw [rounds_succ]
  go_wp2_with fail
  rw [rounds_succ]
  go_wp2
  go_ret2
  exact ⟨by rw [HR.out]; exact ret_nx (by dsimp only; omega) rfl, rfl⟩
end Go.Proofs.YtmnmnnocgimcpaaGreatDoor
