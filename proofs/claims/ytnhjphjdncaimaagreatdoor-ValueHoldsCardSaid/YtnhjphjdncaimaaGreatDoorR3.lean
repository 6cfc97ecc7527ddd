/- The reference: which items are right (ref25.Right, rights). The reference: an item's text and number; how two items stand; what a sign says. The reference: how two items stand (ref25.order). The reference: whether a row is true; a row's text. The reference: Less at any rows of items. -/
import Derived.Test.YtnhjphjdncaimaaGreatDoorR1
import Derived.Test.YtnhjphjdncaimaaGreatDoorR2
import Derived.Test.YtnhjphjdncaimaaGreatDoorTr
import Derived.Test.YtnhjphjdncaimaaGreatDoorHp
import Derived.Test.YtnhjphjdncaimaaGreatDoorTp
namespace Go.Proofs.YtnhjphjdncaimaaGreatDoor
open Go.RowKit
theorem rtexts_any (s : ByteArray) (w : World) (hs : s.size ≤ 140737488355328) : Calls Tryz.prog 80 #[.string s] w fun e w' => e = .returned (.bool (tS s)) ∧ w = w' := by
  rw [← rT_eq]; exact rtextsf_any s w hs
set_option maxRecDepth 100000 in
set_option maxHeartbeats 4000000 in
theorem rright_any (k : Nat) (n d : Int) (s : ByteArray) (w : World) (hs : s.size ≤ 140737488355328) :
    Calls Tryz.prog 52 #[.agg #[.int .u8 k, .int .i64 n, .string s, .int .i64 d]] w fun e w' => e = .returned (.bool (okI ⟨k, n, s, d⟩)) ∧ Below w.heap.size w w' := by
  have hz := (Below.refl w.heap.size w).alloc (Nat.le_refl _) (.cells #[.int .u8 k, .int .i64 n, .string s, .int .i64 d] 38)
  by_cases k1 : k = 1
  · subst k1
    by_cases hd : 0 ≤ d
    · by_cases hn : n = 0
      · subst hn
        have H : Hid (okI ⟨1, 0, s, d⟩ = tS s) := by show _ = _; simp [okI, hd]
        go_enter Tryz.func52, Tryz.ntmps52
        go_wp2_with fail
        refine (rtexts_any s _ hs).mono ?_
        rintro e w1 ⟨rfl, rfl⟩
        go_wp2
        go_ret
        exact ⟨by rw [H.out]; rfl, hz⟩
      · have hnf : (n == 0) = false := by simpa using hn
        have H : Hid (okI ⟨1, n, s, d⟩ = false) := by show _ = _; simp [okI]; intro h; exact absurd h.symm hn
        clear hn
        go_enter Tryz.func52, Tryz.ntmps52
        go_wp2
        go_ret
        exact ⟨by rw [H.out]; rfl, hz⟩
    · have hdf : decide (0 ≤ d) = false := by simpa using hd
      have H : Hid (okI ⟨1, n, s, d⟩ = false) := by show _ = _; simp [okI, hd]
      clear hd
      go_enter Tryz.func52, Tryz.ntmps52
      go_wp2
      go_ret
      exact ⟨by rw [H.out]; rfl, hz⟩
  by_cases k2 : k = 2
  · subst k2
    clear k1
    by_cases hd : d = 0
    · subst hd
      by_cases ht : s.toList = []
      · have te := toList_nil ht
        subst te
        clear ht
        have H : Hid (okI ⟨2, n, ⟨#[]⟩, 0⟩ = true) := by show _ = _; simp [okI]; rfl
        go_enter Tryz.func52, Tryz.ntmps52
        go_wp2
        go_ret
        exact ⟨by rw [H.out]; rfl, hz⟩
      · have H : Hid (okI ⟨2, n, s, 0⟩ = false) := by show _ = _; simp [okI, ht]
        have hte : s.toList.isEmpty = false := by cases hl : s.toList with | nil => exact absurd hl ht | cons _ _ => rfl
        go_enter Tryz.func52, Tryz.ntmps52
        go_wp2
        go_ret
        exact ⟨by rw [H.out]; rfl, hz⟩
    · have hdf : (d == 0) = false := by simpa using hd
      have H : Hid (okI ⟨2, n, s, d⟩ = false) := by show _ = _; simp [okI]; intro _ h; exact absurd h.symm hd
      clear hd
      go_enter Tryz.func52, Tryz.ntmps52
      go_wp2
      go_ret
      exact ⟨by rw [H.out]; rfl, hz⟩
  by_cases k3 : k = 3
  · subst k3
    clear k1 k2
    by_cases hd : d = 0
    · subst hd
      by_cases hn : n = 0
      · subst hn
        have H : Hid (okI ⟨3, 0, s, 0⟩ = tS s) := by show _ = _; simp [okI]
        go_enter Tryz.func52, Tryz.ntmps52
        go_wp2_with fail
        refine (rtexts_any s _ hs).mono ?_
        rintro e w1 ⟨rfl, rfl⟩
        go_wp2
        go_ret
        exact ⟨by rw [H.out]; rfl, hz⟩
      · have hnf : (n == 0) = false := by simpa using hn
        have H : Hid (okI ⟨3, n, s, 0⟩ = false) := by show _ = _; simp [okI]; intro h; exact absurd h.symm hn
        clear hn
        go_enter Tryz.func52, Tryz.ntmps52
        go_wp2
        go_ret
        exact ⟨by rw [H.out]; rfl, hz⟩
    · have hdf : (d == 0) = false := by simpa using hd
      have H : Hid (okI ⟨3, n, s, d⟩ = false) := by show _ = _; simp [okI]; intro _ h; exact absurd h.symm hd
      clear hd
      go_enter Tryz.func52, Tryz.ntmps52
      go_wp2
      go_ret
      exact ⟨by rw [H.out]; rfl, hz⟩
  by_cases k4 : k = 4
  · subst k4
    clear k1 k2 k3
    by_cases hd : d = 0
    · subst hd
      by_cases ht : s.toList = []
      · have te := toList_nil ht
        subst te
        clear ht
        by_cases hn : n = 0
        · subst hn
          have H : Hid (okI ⟨4, 0, ⟨#[]⟩, 0⟩ = true) := by show _ = _; simp [okI]; rfl
          go_enter Tryz.func52, Tryz.ntmps52
          go_wp2
          go_ret
          exact ⟨by rw [H.out]; rfl, hz⟩
        · have hnf : (n == 0) = false := by simpa using hn
          by_cases hn1 : n = 1
          · subst hn1
            clear hn hnf
            have H : Hid (okI ⟨4, 1, ⟨#[]⟩, 0⟩ = true) := by show _ = _; simp [okI]; rfl
            go_enter Tryz.func52, Tryz.ntmps52
            go_wp2
            go_ret
            exact ⟨by rw [H.out]; rfl, hz⟩
          · have hnf1 : (n == 1) = false := by simpa using hn1
            have H : Hid (okI ⟨4, n, ⟨#[]⟩, 0⟩ = false) := by show _ = _; simp [okI, hn, hn1]
            clear hn hn1
            go_enter Tryz.func52, Tryz.ntmps52
            go_wp2
            go_ret
            exact ⟨by rw [H.out]; rfl, hz⟩
      · have H : Hid (okI ⟨4, n, s, 0⟩ = false) := by show _ = _; simp [okI, ht]
        have hte : s.toList.isEmpty = false := by cases hl : s.toList with | nil => exact absurd hl ht | cons _ _ => rfl
        go_enter Tryz.func52, Tryz.ntmps52
        go_wp2
        go_ret
        exact ⟨by rw [H.out]; rfl, hz⟩
    · have hdf : (d == 0) = false := by simpa using hd
      have H : Hid (okI ⟨4, n, s, d⟩ = false) := by show _ = _; simp [okI]; intro _ _ h; exact absurd h.symm hd
      clear hd
      go_enter Tryz.func52, Tryz.ntmps52
      go_wp2
      go_ret
      exact ⟨by rw [H.out]; rfl, hz⟩
  · have i1 : ((k : Int) == 1) = false := by simpa using (show (k : Int) ≠ 1 by omega)
    have i2 : ((k : Int) == 2) = false := by simpa using (show (k : Int) ≠ 2 by omega)
    have i3 : ((k : Int) == 3) = false := by simpa using (show (k : Int) ≠ 3 by omega)
    have i4 : ((k : Int) == 4) = false := by simpa using (show (k : Int) ≠ 4 by omega)
    have H : Hid (okI ⟨k, n, s, d⟩ = false) := by show _ = _; simp [okI, k1, k2, k3, k4]
    clear k1 k2 k3 k4
    go_enter Tryz.func52, Tryz.ntmps52
    go_wp2
    go_ret
    exact ⟨by rw [H.out]; rfl, hz⟩
set_option maxRecDepth 100000 in
set_option maxHeartbeats 2000000 in
theorem rrights_any (p : Option Addr) (n c : Nat) (l : List It) (w : World) (ha : OkA w ⟨p, l, c⟩) (hn : n = l.length) :
    Calls Tryz.prog 27 #[.slice p n c] w fun e w' => e = .returned (.bool (l.all okI)) ∧ Below w.heap.size w w' := by
  have Ha := hide ha
  have Hn := hide hn
  have hnl : n < 9223372036854775807 := by rw [hn]; exact ha.2.2
  clear ha hn
  go_enter Tryz.func27, Tryz.ntmps27
  go_wp2_with fail
  go_loopw [3] (fun v W => ∃ k : Nat, k ≤ n ∧ v = .int .i64 k ∧ Hid ((l.drop k).all okI = l.all okI) ∧ Below w.heap.size w W) (fun v _ => n - (intOf v).toNat)
  case atStart => exact ⟨0, Nat.zero_le _, rfl, hide rfl, Below.refl _ _⟩
  case round =>
    obtain ⟨k, hk, rfl, Hk, hB⟩ := hrel
    by_cases hlt : k < n
    · have hI : (k : Int) < (n : Int) := by omega
      obtain ⟨x, hx⟩ : ∃ x, l[k]? = some x := ⟨_, List.getElem?_eq_getElem (by have := Hn.out; omega)⟩
      obtain ⟨b1, off1, e1, c0, c1, c2, c3⟩ := (Ha.out.1.keep hB).at k x hx
      dsimp only at e1
      subst e1
      have hs1 := Ha.out.2.1 x (List.mem_of_getElem? hx)
      have hix := ix_item b1 off1 n c k hlt
      have hst := hide (drop_all okI l k x hx)
      clear hx
      obtain ⟨k1, a1, t1, d1⟩ := x
      dsimp only at c0 c1 c2 c3 hs1
      go_wp2_with fail
      refine (rright_any k1 a1 d1 t1 _ hs1).mono ?_
      rintro e w1 ⟨rfl, hb1⟩
      have hB1 := chain0 hB hb1
      clear hb1 c0 c1 c2 c3 hB
      rcases Bool.eq_false_or_eq_true (okI ⟨k1, a1, t1, d1⟩) with hq | hq
      · have Hk2 : Hid ((l.drop (k + 1)).all okI = l.all okI) := by show _ = _; rw [← Hk.out, hst.out, hq, Bool.true_and]
        rw [hq]
        clear hst Hk hq
        go_wp2
        go_roundw
        case rel => exact ⟨k + 1, by omega, by simp, Hk2, hB1⟩
        case measure => simp [intOf]; omega
      · have HR : Hid (l.all okI = false) := by show _ = _; rw [← Hk.out, hst.out, hq, Bool.false_and]
        rw [hq]
        clear hst Hk hq
        go_wp2
        go_ret
        exact ⟨by rw [HR.out]; rfl, hB1⟩
    · have hI : ¬ (k : Int) < (n : Int) := by omega
      have HR : Hid (l.all okI = true) := by show _ = _; rw [← Hk.out]; exact drop_end okI l k (by have := Hn.out; omega)
      clear Hk
      go_wp2
      go_ret
      exact ⟨by rw [HR.out]; rfl, hB⟩
end Go.Proofs.YtnhjphjdncaimaaGreatDoor
namespace Go.Proofs.YtnhjphjdncaimaaGreatDoor
open Go.RowKit
theorem rf_wh (s : ByteArray) : rfN s = whN s ∧ rfB s = whB s := by
  unfold rfN rfB
  rw [wh_eq]
  rcases Bool.eq_false_or_eq_true (whB s) with h | h
  · rw [if_pos h, h]; exact ⟨rfl, rfl⟩
  · rw [if_neg (by rw [h]; decide), h, whN_no h]; exact ⟨rfl, rfl⟩
theorem rwhole_any (s : ByteArray) (w : World) (hs : s.size ≤ 140737488355328) : Calls Tryz.prog 81 #[.string s] w fun e w' => e = .returned (.tuple #[.int .i64 (whN s), .bool (whB s)]) ∧ w = w' := by
  rw [← (rf_wh s).1, ← (rf_wh s).2]; exact rwholef_any s w hs
set_option maxRecDepth 100000 in
set_option maxHeartbeats 1000000 in
theorem rtext_any (k : Nat) (n d : Int) (s : ByteArray) (w : World) (hR : R64 n) : Calls Tryz.prog 31 #[.agg #[.int .u8 k, .int .i64 n, .string s, .int .i64 d]] w fun e w' => e = .returned (.string (txt ⟨k, n, s, d⟩)) ∧ Below w.heap.size w w' := by
  have hz := (Below.refl w.heap.size w).alloc (Nat.le_refl _) (.cells #[.int .u8 k, .int .i64 n, .string s, .int .i64 d] 38)
  have HR := hide hR
  clear hR
  by_cases k2 : k = 2
  · subst k2
    have HT : Hid (txt ⟨2, n, s, d⟩ = ⟨(Lib.itoa n).toArray⟩) := by show _ = _; rfl
    go_enter Tryz.func31, Tryz.ntmps31
    go_wp2_with fail
    refine (rdigits_any n HR.out _).mono ?_
    rintro e w2 ⟨rfl, hb2⟩
    have hB2 := chain0 hz hb2
    clear hb2
    go_wp2
    go_ret
    exact ⟨by rw [HT.out]; rfl, hB2⟩
  · have k2i : ((k : Int) == 2) = false := by simpa using (show (k : Int) ≠ 2 by omega)
    by_cases k4 : k = 4
    · subst k4
      clear k2 k2i
      by_cases h1 : n = 1
      · subst h1
        have HT : Hid (txt ⟨4, 1, s, d⟩ = bT) := by show _ = _; rfl
        go_enter Tryz.func31, Tryz.ntmps31
        go_wp2
        go_ret
        exact ⟨by rw [HT.out]; rfl, hz⟩
      · have h1f : (n == 1) = false := by simpa using h1
        have HT : Hid (txt ⟨4, n, s, d⟩ = bF) := by show _ = _; unfold txt; rw [if_neg (show ¬ (4 = 2) by decide), if_pos rfl, if_neg h1]
        clear h1
        go_enter Tryz.func31, Tryz.ntmps31
        go_wp2
        go_ret
        exact ⟨by rw [HT.out]; rfl, hz⟩
    · have k4i : ((k : Int) == 4) = false := by simpa using (show (k : Int) ≠ 4 by omega)
      have HT : Hid (txt ⟨k, n, s, d⟩ = s) := by show _ = _; unfold txt; rw [if_neg k2, if_neg k4]
      clear k2 k4
      go_enter Tryz.func31, Tryz.ntmps31
      go_wp2
      go_ret
      exact ⟨by rw [HT.out]; rfl, hz⟩
theorem whB_nil : whB ⟨#[]⟩ = false := by decide +kernel
set_option maxRecDepth 100000 in
set_option maxHeartbeats 1000000 in
theorem rnumber_any (k : Nat) (n d : Int) (s : ByteArray) (w : World) (hok : k = 4 → s = ⟨#[]⟩) (hs : s.size ≤ 140737488355328) :
    Calls Tryz.prog 53 #[.agg #[.int .u8 k, .int .i64 n, .string s, .int .i64 d]] w fun e w' => e = .returned (.tuple #[.int .i64 (nV ⟨k, n, s, d⟩), .int .i64 (nE ⟨k, n, s, d⟩)]) ∧ Below w.heap.size w w' := by
  have hz := (Below.refl w.heap.size w).alloc (Nat.le_refl _) (.cells #[.int .u8 k, .int .i64 n, .string s, .int .i64 d] 38)
  by_cases hk : k = 2
  · subst hk
    have HN : Hid (nV ⟨2, n, s, d⟩ = n) := by show _ = _; rfl
    have HE : Hid (nE ⟨2, n, s, d⟩ = 0) := by show _ = _; rfl
    clear hok
    go_enter Tryz.func53, Tryz.ntmps53
    go_wp2
    go_ret2
    exact ⟨by rw [HN.out, HE.out]; rfl, hz⟩
  · have hk1 : ((k : Int) == 2) = false := by simpa using (show (k : Int) ≠ 2 by omega)
    have HN : Hid (nV ⟨k, n, s, d⟩ = whN s) := by show _ = _; unfold nV; exact if_neg hk
    have HE : Hid (nE ⟨k, n, s, d⟩ = if whB s = true then 0 else 250) := by show _ = _; unfold nE; exact if_neg hk
    by_cases h4 : k = 4
    · subst h4
      have hse := hok rfl
      subst hse
      have HN2 : Hid (nV ⟨4, n, ⟨#[]⟩, d⟩ = 0) := by show _ = _; rw [HN.out, whN_no whB_nil]
      have HE2 : Hid (nE ⟨4, n, ⟨#[]⟩, d⟩ = 250) := by show _ = _; rw [HE.out, whB_nil]; rfl
      clear hk hk1 HN HE hok hs
      go_enter Tryz.func53, Tryz.ntmps53
      go_wp2
      go_ret2
      exact ⟨by rw [HN2.out, HE2.out]; rfl, hz⟩
    · have h4i : ((k : Int) == 4) = false := by simpa using (show (k : Int) ≠ 4 by omega)
      clear hk h4 hok
      rcases Bool.eq_false_or_eq_true (whB s) with hb | hb
      · have HW := hide (rwhole_any s (w.alloc (.cells #[.int .u8 k, .int .i64 n, .string s, .int .i64 d] 38)) hs)
        rw [hb] at HE HW
        clear hb
        go_enter Tryz.func53, Tryz.ntmps53
        go_wp2_with fail
        refine HW.out.mono ?_
        rintro e w1 ⟨rfl, rfl⟩
        go_wp2
        go_ret2
        exact ⟨by rw [HN.out, HE.out]; rfl, hz⟩
      · have hN := hide (whN_no hb)
        have HW := hide (rwhole_any s (w.alloc (.cells #[.int .u8 k, .int .i64 n, .string s, .int .i64 d] 38)) hs)
        rw [hb] at HE HW
        clear hb
        go_enter Tryz.func53, Tryz.ntmps53
        go_wp2_with fail
        refine HW.out.mono ?_
        rintro e w1 ⟨rfl, rfl⟩
        go_wp2
        go_ret2
        exact ⟨by rw [HN.out, HE.out, hN.out]; rfl, hz⟩
/-- a sign, told by hand -/
def RSign (op : ByteArray) (hf : Int → Bool) : Prop := ∀ (n : Int) (w : World), Calls Tryz.prog 29 #[.string op, .int .i64 n] w fun e w' => e = .returned (.bool (hf n)) ∧ w = w'
set_option maxRecDepth 100000 in
set_option maxHeartbeats 1000000 in
theorem rholds_eq (n : Int) (q : Bool) (w : World) (hq : (n == 0) = q) : Calls Tryz.prog 29 #[.string ⟨#[61]⟩, .int .i64 n] w fun e w' => e = .returned (.bool q) ∧ w = w' := by
  go_enter Tryz.func29, Tryz.ntmps29
  go_wp2
  go_ret
  exact ⟨rfl, rfl⟩
set_option maxRecDepth 100000 in
set_option maxHeartbeats 1000000 in
theorem rholds_ne (n : Int) (q : Bool) (w : World) (hq : (n != 0) = q) : Calls Tryz.prog 29 #[.string ⟨#[33, 61]⟩, .int .i64 n] w fun e w' => e = .returned (.bool q) ∧ w = w' := by
  go_enter Tryz.func29, Tryz.ntmps29
  go_wp2
  go_ret
  exact ⟨rfl, rfl⟩
set_option maxRecDepth 100000 in
set_option maxHeartbeats 1000000 in
theorem rholds_lt (n : Int) (q : Bool) (w : World) (hq : (decide (n < 0)) = q) : Calls Tryz.prog 29 #[.string ⟨#[60]⟩, .int .i64 n] w fun e w' => e = .returned (.bool q) ∧ w = w' := by
  go_enter Tryz.func29, Tryz.ntmps29
  go_wp2
  go_ret
  exact ⟨rfl, rfl⟩
set_option maxRecDepth 100000 in
set_option maxHeartbeats 1000000 in
theorem rholds_le (n : Int) (q : Bool) (w : World) (hq : (decide (n ≤ 0)) = q) : Calls Tryz.prog 29 #[.string ⟨#[60, 61]⟩, .int .i64 n] w fun e w' => e = .returned (.bool q) ∧ w = w' := by
  go_enter Tryz.func29, Tryz.ntmps29
  go_wp2
  go_ret
  exact ⟨rfl, rfl⟩
set_option maxRecDepth 100000 in
set_option maxHeartbeats 1000000 in
theorem rholds_gt (n : Int) (q : Bool) (w : World) (hq : (decide (0 < n)) = q) : Calls Tryz.prog 29 #[.string ⟨#[62]⟩, .int .i64 n] w fun e w' => e = .returned (.bool q) ∧ w = w' := by
  go_enter Tryz.func29, Tryz.ntmps29
  go_wp2
  go_ret
  exact ⟨rfl, rfl⟩
set_option maxRecDepth 100000 in
set_option maxHeartbeats 1000000 in
theorem rholds_ge (n : Int) (q : Bool) (w : World) (hq : (decide (0 ≤ n)) = q) : Calls Tryz.prog 29 #[.string ⟨#[62, 61]⟩, .int .i64 n] w fun e w' => e = .returned (.bool q) ∧ w = w' := by
  go_enter Tryz.func29, Tryz.ntmps29
  go_wp2
  go_ret
  exact ⟨rfl, rfl⟩
theorem rsEq : RSign ⟨#[61]⟩ (fun n => n == 0) := fun n w => rholds_eq n _ w rfl
theorem rsLt : RSign ⟨#[60]⟩ (fun n => decide (n < 0)) := fun n w => rholds_lt n _ w rfl
theorem rsNe : RSign ⟨#[33, 61]⟩ (fun n => n != 0) := fun n w => rholds_ne n _ w rfl
theorem rsLe : RSign ⟨#[60, 61]⟩ (fun n => decide (n ≤ 0)) := fun n w => rholds_le n _ w rfl
theorem rsGt : RSign ⟨#[62]⟩ (fun n => decide (0 < n)) := fun n w => rholds_gt n _ w rfl
theorem rsGe : RSign ⟨#[62, 61]⟩ (fun n => decide (0 ≤ n)) := fun n w => rholds_ge n _ w rfl
end Go.Proofs.YtnhjphjdncaimaaGreatDoor
namespace Go.Proofs.YtnhjphjdncaimaaGreatDoor
open Go.RowKit
theorem cmpInt_lt {a b : Int} (h : a < b) : cmpInt a b = -1 := by unfold cmpInt; rw [if_pos h]
theorem cmpInt_gt {a b : Int} (h : b < a) : cmpInt a b = 1 := by unfold cmpInt; rw [if_neg (by omega), if_pos h]
theorem cmpInt_eq (a : Int) : cmpInt a a = 0 := by unfold cmpInt; rw [if_neg (by omega), if_neg (by omega)]
theorem cmpT_lt {a b : ByteArray} (h : Op.bytesLess a.toList b.toList = true) : cmpT a b = -1 := by unfold cmpT; rw [if_pos h]
theorem cmpT_gt {a b : ByteArray} (h : Op.bytesLess a.toList b.toList = false) (h2 : (a.toList == b.toList) = false) : cmpT a b = 1 := by
  unfold cmpT
  rw [if_neg (by rw [h]; decide), if_neg (by rw [h2]; decide)]
theorem cmpT_eq {a b : ByteArray} (h : Op.bytesLess a.toList b.toList = false) (h2 : (a.toList == b.toList) = true) : cmpT a b = 0 := by
  unfold cmpT
  rw [if_neg (by rw [h]; decide), if_pos h2]
set_option maxRecDepth 100000 in
set_option maxHeartbeats 4000000 in
theorem rorder_any (k1 k2 : Nat) (a1 a2 d1 d2 : Int) (t1 t2 : ByteArray) (w : World) (hs1 : t1.size ≤ 140737488355328) (hs2 : t2.size ≤ 140737488355328) :
    Calls Tryz.prog 28 #[.agg #[.int .u8 k1, .int .i64 a1, .string t1, .int .i64 d1], .agg #[.int .u8 k2, .int .i64 a2, .string t2, .int .i64 d2]] w fun e w' => e = .returned (.tuple #[.int .i64 (oV ⟨k1, a1, t1, d1⟩ ⟨k2, a2, t2, d2⟩), .int .i64 (oE ⟨k1, a1, t1, d1⟩ ⟨k2, a2, t2, d2⟩)]) ∧ Below w.heap.size w w' := by
  have hB0 : Below w.heap.size w ((w.alloc (.cells #[.int .u8 k1, .int .i64 a1, .string t1, .int .i64 d1] 38)).alloc (.cells #[.int .u8 k2, .int .i64 a2, .string t2, .int .i64 d2] 38)) := ((Below.refl _ _).alloc (Nat.le_refl _) _).alloc (by simp) _
  have y_b : Blk ((w.alloc (.cells #[.int .u8 k1, .int .i64 a1, .string t1, .int .i64 d1] 38)).alloc (.cells #[.int .u8 k2, .int .i64 a2, .string t2, .int .i64 d2] 38)) (w.heap.size + 1) 38 #[.int .u8 k2, .int .i64 a2, .string t2, .int .i64 d2] := by
    have := Blk.new (w.alloc (.cells #[.int .u8 k1, .int .i64 a1, .string t1, .int .i64 d1] 38)) 38 #[.int .u8 k2, .int .i64 a2, .string t2, .int .i64 d2]
    simpa using this
  by_cases p4 : k1 = 4
  · have f1 : ((k1 : Int) == 4) = true := by simpa using (show (k1 : Int) = 4 by omega)
    by_cases q4 : k2 = 4
    · have f2 : ((k2 : Int) == 4) = true := by simpa using (show (k2 : Int) = 4 by omega)
      have HV : Hid (oV ⟨k1, a1, t1, d1⟩ ⟨k2, a2, t2, d2⟩ = cmpInt a1 a2) := by show _ = _; simp [oV, p4, q4]
      have HE : Hid (oE ⟨k1, a1, t1, d1⟩ ⟨k2, a2, t2, d2⟩ = 0) := by show _ = _; simp [oE, p4, q4]
      clear p4 q4
      rcases Int.lt_trichotomy a1 a2 with hc | hc | hc
      · have HC := hide (cmpInt_lt hc)
        go_enter Tryz.func28, Tryz.ntmps28
        go_wp2_with fail
        go_region
        go_wp2_with fail
        go_region
        go_wp2
        go_ret2
        exact ⟨by rw [HV.out, HE.out, HC.out]; rfl, hB0.drew.drew⟩
      · subst hc
        have HC := hide (cmpInt_eq a1)
        have hc : ¬ a1 < a1 := by omega
        go_enter Tryz.func28, Tryz.ntmps28
        go_wp2_with fail
        go_region
        go_wp2_with fail
        go_region
        go_wp2
        go_ret2
        exact ⟨by rw [HV.out, HE.out, HC.out]; rfl, hB0.drew.drew⟩
      · have HC := hide (cmpInt_gt hc)
        have hc2 : ¬ a1 < a2 := by omega
        go_enter Tryz.func28, Tryz.ntmps28
        go_wp2_with fail
        go_region
        go_wp2_with fail
        go_region
        go_wp2
        go_ret2
        exact ⟨by rw [HV.out, HE.out, HC.out]; rfl, hB0.drew.drew⟩
    · have f2 : ((k2 : Int) == 4) = false := by simpa using (show (k2 : Int) ≠ 4 by omega)
      have HV : Hid (oV ⟨k1, a1, t1, d1⟩ ⟨k2, a2, t2, d2⟩ = 0) := by show _ = _; simp [oV, p4, q4]
      have HE : Hid (oE ⟨k1, a1, t1, d1⟩ ⟨k2, a2, t2, d2⟩ = 250) := by show _ = _; simp [oE, p4, q4]
      clear p4 q4
      go_enter Tryz.func28, Tryz.ntmps28
      go_wp2_with fail
      go_region
      go_wp2
      go_ret2
      exact ⟨by rw [HV.out, HE.out]; rfl, hB0.drew⟩
  · have f1 : ((k1 : Int) == 4) = false := by simpa using (show (k1 : Int) ≠ 4 by omega)
    by_cases q4 : k2 = 4
    · have f2 : ((k2 : Int) == 4) = true := by simpa using (show (k2 : Int) = 4 by omega)
      have HV : Hid (oV ⟨k1, a1, t1, d1⟩ ⟨k2, a2, t2, d2⟩ = 0) := by show _ = _; simp [oV, p4, q4]
      have HE : Hid (oE ⟨k1, a1, t1, d1⟩ ⟨k2, a2, t2, d2⟩ = 250) := by show _ = _; simp [oE, p4, q4]
      clear p4 q4
      go_enter Tryz.func28, Tryz.ntmps28
      go_wp2_with fail
      go_region
      go_wp2
      go_ret2
      exact ⟨by rw [HV.out, HE.out]; rfl, hB0.drew⟩
    · have f2 : ((k2 : Int) == 4) = false := by simpa using (show (k2 : Int) ≠ 4 by omega)
      by_cases p2 : k1 = 2
      · have g1 : ((k1 : Int) != 2) = false := by simpa using (show (k1 : Int) = 2 by omega)
        have H2 : Hid (k1 = 2 ∨ k2 = 2) := .inl p2
        have H4 := hide p4
        have H5 := hide q4
        clear p2 p4 q4
        go_enter Tryz.func28, Tryz.ntmps28
        go_wp2_with fail
        go_region
        go_wp2_with fail
        go_region
        go_wp2_with fail
        refine (rnumber_any k1 a1 d1 t1 _ (fun h => absurd h H4.out) hs1).mono ?_
        rintro e w1 ⟨rfl, hb1⟩
        have hB1 := chain0 hB0.drew.drew hb1
        have x_b : Blk w1 (w.heap.size + 1) 38 #[.int .u8 k2, .int .i64 a2, .string t2, .int .i64 d2] := y_b.drew.drew.keep hb1
        clear hb1
        have c0 := x_b.cell 0
        have c1 := x_b.cell 1
        have c2 := x_b.cell 2
        have c3 := x_b.cell 3
        simp only [List.getElem?_toArray, List.getElem?_cons_zero, List.getElem?_cons_succ] at c0 c1 c2 c3
        go_wp2_with fail
        refine (rnumber_any k2 a2 d2 t2 _ (fun h => absurd h H5.out) hs2).mono ?_
        rintro e w2 ⟨rfl, hb2⟩
        have hB2 := chain0 hB1 hb2
        clear hb2 c0 c1 c2 c3 hB1
        by_cases n1 : nE ⟨k1, a1, t1, d1⟩ = 0
        · by_cases n2 : nE ⟨k2, a2, t2, d2⟩ = 0
          · have HV : Hid (oV ⟨k1, a1, t1, d1⟩ ⟨k2, a2, t2, d2⟩ = cmpInt (nV ⟨k1, a1, t1, d1⟩) (nV ⟨k2, a2, t2, d2⟩)) := oV_num H4.out H5.out H2.out n1 n2
            have HE : Hid (oE ⟨k1, a1, t1, d1⟩ ⟨k2, a2, t2, d2⟩ = 0) := oE_num H4.out H5.out H2.out n1 n2
            rw [n1, n2]
            have n1' : True := trivial
            generalize nV ⟨k1, a1, t1, d1⟩ = v1 at *
            generalize nV ⟨k2, a2, t2, d2⟩ = v2 at *
            clear n1 n2 H2 H4 H5 f1 f2 g1
            rcases Int.lt_trichotomy v1 v2 with hc | hc | hc
            · have HC := hide (cmpInt_lt hc)
              skip
              go_wp2
              go_ret2
              exact ⟨by rw [HV.out, HE.out, HC.out]; rfl, hB2⟩
            · subst hc
              have HC := hide (cmpInt_eq v1)
              have hc : ¬ v1 < v1 := by omega
              skip
              go_wp2
              go_ret2
              exact ⟨by rw [HV.out, HE.out, HC.out]; rfl, hB2⟩
            · have HC := hide (cmpInt_gt hc)
              have hc2 : ¬ v1 < v2 := by omega
              skip
              go_wp2
              go_ret2
              exact ⟨by rw [HV.out, HE.out, HC.out]; rfl, hB2⟩
          · have n2' : (nE ⟨k2, a2, t2, d2⟩ != 0) = true := by simpa using n2
            have HV : Hid (oV ⟨k1, a1, t1, d1⟩ ⟨k2, a2, t2, d2⟩ = 0) := oV_no H4.out H5.out H2.out (.inr n2)
            have HE : Hid (oE ⟨k1, a1, t1, d1⟩ ⟨k2, a2, t2, d2⟩ = 250) := oE_no H4.out H5.out H2.out (.inr n2)
            rw [n1]
            generalize nE ⟨k2, a2, t2, d2⟩ = e2 at n2' ⊢
            clear n1 n2 H2 H4 H5 f1 f2 g1
            go_wp2
            go_ret2
            exact ⟨by rw [HV.out, HE.out]; rfl, hB2⟩
        · have n1' : (nE ⟨k1, a1, t1, d1⟩ != 0) = true := by simpa using n1
          have HV : Hid (oV ⟨k1, a1, t1, d1⟩ ⟨k2, a2, t2, d2⟩ = 0) := oV_no H4.out H5.out H2.out (.inl n1)
          have HE : Hid (oE ⟨k1, a1, t1, d1⟩ ⟨k2, a2, t2, d2⟩ = 250) := oE_no H4.out H5.out H2.out (.inl n1)
          generalize nE ⟨k1, a1, t1, d1⟩ = e1 at n1' ⊢
          clear n1 H2 H4 H5 f1 f2 g1
          go_wp2
          go_ret2
          exact ⟨by rw [HV.out, HE.out]; rfl, hB2⟩
      · have g1 : ((k1 : Int) != 2) = true := by simpa using (show (k1 : Int) ≠ 2 by omega)
        by_cases q2 : k2 = 2
        · have g2 : ((k2 : Int) != 2) = false := by simpa using (show (k2 : Int) = 2 by omega)
          have H2 : Hid (k1 = 2 ∨ k2 = 2) := .inr q2
          have H4 := hide p4
          have H5 := hide q4
          clear p2 q2 p4 q4
          go_enter Tryz.func28, Tryz.ntmps28
          go_wp2_with fail
          go_region
          go_wp2_with fail
          go_region
          go_wp2_with fail
          refine (rnumber_any k1 a1 d1 t1 _ (fun h => absurd h H4.out) hs1).mono ?_
          rintro e w1 ⟨rfl, hb1⟩
          have hB1 := chain0 hB0.drew.drew hb1
          have x_b : Blk w1 (w.heap.size + 1) 38 #[.int .u8 k2, .int .i64 a2, .string t2, .int .i64 d2] := y_b.drew.drew.keep hb1
          clear hb1
          have c0 := x_b.cell 0
          have c1 := x_b.cell 1
          have c2 := x_b.cell 2
          have c3 := x_b.cell 3
          simp only [List.getElem?_toArray, List.getElem?_cons_zero, List.getElem?_cons_succ] at c0 c1 c2 c3
          go_wp2_with fail
          refine (rnumber_any k2 a2 d2 t2 _ (fun h => absurd h H5.out) hs2).mono ?_
          rintro e w2 ⟨rfl, hb2⟩
          have hB2 := chain0 hB1 hb2
          clear hb2 c0 c1 c2 c3 hB1
          by_cases n1 : nE ⟨k1, a1, t1, d1⟩ = 0
          · by_cases n2 : nE ⟨k2, a2, t2, d2⟩ = 0
            · have HV : Hid (oV ⟨k1, a1, t1, d1⟩ ⟨k2, a2, t2, d2⟩ = cmpInt (nV ⟨k1, a1, t1, d1⟩) (nV ⟨k2, a2, t2, d2⟩)) := oV_num H4.out H5.out H2.out n1 n2
              have HE : Hid (oE ⟨k1, a1, t1, d1⟩ ⟨k2, a2, t2, d2⟩ = 0) := oE_num H4.out H5.out H2.out n1 n2
              rw [n1, n2]
              have n1' : True := trivial
              generalize nV ⟨k1, a1, t1, d1⟩ = v1 at *
              generalize nV ⟨k2, a2, t2, d2⟩ = v2 at *
              clear n1 n2 H2 H4 H5 f1 f2 g1
              rcases Int.lt_trichotomy v1 v2 with hc | hc | hc
              · have HC := hide (cmpInt_lt hc)
                skip
                go_wp2
                go_ret2
                exact ⟨by rw [HV.out, HE.out, HC.out]; rfl, hB2⟩
              · subst hc
                have HC := hide (cmpInt_eq v1)
                have hc : ¬ v1 < v1 := by omega
                skip
                go_wp2
                go_ret2
                exact ⟨by rw [HV.out, HE.out, HC.out]; rfl, hB2⟩
              · have HC := hide (cmpInt_gt hc)
                have hc2 : ¬ v1 < v2 := by omega
                skip
                go_wp2
                go_ret2
                exact ⟨by rw [HV.out, HE.out, HC.out]; rfl, hB2⟩
            · have n2' : (nE ⟨k2, a2, t2, d2⟩ != 0) = true := by simpa using n2
              have HV : Hid (oV ⟨k1, a1, t1, d1⟩ ⟨k2, a2, t2, d2⟩ = 0) := oV_no H4.out H5.out H2.out (.inr n2)
              have HE : Hid (oE ⟨k1, a1, t1, d1⟩ ⟨k2, a2, t2, d2⟩ = 250) := oE_no H4.out H5.out H2.out (.inr n2)
              rw [n1]
              generalize nE ⟨k2, a2, t2, d2⟩ = e2 at n2' ⊢
              clear n1 n2 H2 H4 H5 f1 f2 g1
              go_wp2
              go_ret2
              exact ⟨by rw [HV.out, HE.out]; rfl, hB2⟩
          · have n1' : (nE ⟨k1, a1, t1, d1⟩ != 0) = true := by simpa using n1
            have HV : Hid (oV ⟨k1, a1, t1, d1⟩ ⟨k2, a2, t2, d2⟩ = 0) := oV_no H4.out H5.out H2.out (.inl n1)
            have HE : Hid (oE ⟨k1, a1, t1, d1⟩ ⟨k2, a2, t2, d2⟩ = 250) := oE_no H4.out H5.out H2.out (.inl n1)
            generalize nE ⟨k1, a1, t1, d1⟩ = e1 at n1' ⊢
            clear n1 H2 H4 H5 f1 f2 g1
            go_wp2
            go_ret2
            exact ⟨by rw [HV.out, HE.out]; rfl, hB2⟩
        · have g2 : ((k2 : Int) != 2) = true := by simpa using (show (k2 : Int) ≠ 2 by omega)
          have HV : Hid (oV ⟨k1, a1, t1, d1⟩ ⟨k2, a2, t2, d2⟩ = cmpT t1 t2) := by show _ = _; simp [oV, p4, q4, p2, q2]
          have HE : Hid (oE ⟨k1, a1, t1, d1⟩ ⟨k2, a2, t2, d2⟩ = 0) := by show _ = _; simp [oE, p4, q4, p2, q2]
          clear p2 q2 p4 q4
          cases h1 : Op.bytesLess t1.toList t2.toList with
          | true =>
            have HC := hide (cmpT_lt h1)
            go_enter Tryz.func28, Tryz.ntmps28
            go_wp2_with fail
            go_region
            go_wp2_with fail
            go_region
            go_wp2
            go_ret2
            exact ⟨by rw [HV.out, HE.out, HC.out]; rfl, hB0.drew.drew⟩
          | false =>
            rcases Bool.eq_false_or_eq_true (t1.toList == t2.toList) with h2 | h2
            · have HC := hide (cmpT_eq h1 h2)
              go_enter Tryz.func28, Tryz.ntmps28
              go_wp2_with fail
              go_region
              go_wp2_with fail
              go_region
              go_wp2
              go_ret2
              exact ⟨by rw [HV.out, HE.out, HC.out]; rfl, hB0.drew.drew⟩
            · have HC := hide (cmpT_gt h1 h2)
              go_enter Tryz.func28, Tryz.ntmps28
              go_wp2_with fail
              go_region
              go_wp2_with fail
              go_region
              go_wp2
              go_ret2
              exact ⟨by rw [HV.out, HE.out, HC.out]; rfl, hB0.drew.drew⟩
end Go.Proofs.YtnhjphjdncaimaaGreatDoor
namespace Go.Proofs.YtnhjphjdncaimaaGreatDoor
open Go.RowKit
theorem ok3_num {n d : Int} {t : ByteArray} (h : okI ⟨3, n, t, d⟩ = true) : n = 0 := by
  simp [okI] at h
  exact h.1.1.symm
theorem ok_text {k : Nat} {n d : Int} {t : ByteArray} (h : okI ⟨k, n, t, d⟩ = true) (h1 : k ≠ 1) (h3 : k ≠ 3) : t = ⟨#[]⟩ := by
  by_cases h2 : k = 2
  · subst h2; simp [okI] at h; exact toList_nil h.1.1
  · by_cases h4 : k = 4
    · subst h4; simp [okI] at h; exact toList_nil h.1.2.1
    · simp [okI, h1, h2, h3, h4] at h
set_option maxRecDepth 100000 in
set_option maxHeartbeats 4000000 in
theorem rtruth_any (p : Option Addr) (n c : Nat) (l : List It) (w : World) (ha : OkA w ⟨p, l, c⟩) (hn : n = l.length) :
    Calls Tryz.prog 10 #[.slice p n c] w fun e w' => e = .returned (.tuple #[.bool (truthV l).1, .int .i64 (truthV l).2]) ∧ Below w.heap.size w w' := by
  have Hr := hide (rrights_any p n c l w ha hn)
  have Ha := hide ha
  have hnl : n < 9223372036854775807 := by rw [hn]; exact ha.2.2
  clear ha
  rcases Bool.eq_false_or_eq_true (l.all okI) with hq | hq
  · match l with
    | [] =>
      have HT : Hid (truthV [] = (false, 0)) := by show _ = _; rfl
      have hn0 : n = 0 := hn
      subst hn0
      rw [hq] at Hr
      clear hn hq
      go_enter Tryz.func10, Tryz.ntmps10
      go_wp2_with fail
      refine Hr.out.mono ?_
      rintro e w1 ⟨rfl, hb1⟩
      go_wp2
      go_ret2
      exact ⟨by rw [HT.out]; rfl, by first | exact hb1 | exact hb1.alloc hb1.size _⟩
    | x :: r =>
      obtain ⟨m, hm⟩ : ∃ m, m = r.length := ⟨_, rfl⟩
      have hn1 : n = m + 1 := by rw [hn, List.length_cons, hm]
      rw [hq] at Hr
      obtain ⟨b, off, hp, _⟩ := at0 Ha.out.1
      dsimp only at hp
      subst hp
      have hix := ix_at0 b off n c (by omega)
      by_cases k1 : x.kind = 1
      · have HT : Hid (truthV (x :: r) = (true, 0)) := by show _ = _; unfold truthV; rw [if_pos hq]; exact if_pos k1
        clear hn hm
        obtain ⟨xk, xa, xt, xd⟩ := x
        have k1 : xk = 1 := k1
        subst k1
        clear hq
        subst hn1
        go_enter Tryz.func10, Tryz.ntmps10
        go_wp2_with fail
        refine Hr.out.mono ?_
        rintro e w1 ⟨rfl, hb1⟩
        obtain ⟨b2, off2, e2, c0, c1, c2, c3⟩ := at0 (Ha.out.1.keep hb1)
        injection e2 with e2
        injection e2 with e2 e3
        subst e2 e3
        dsimp only at c0 c1 c2 c3
        go_wp2
        go_ret2
        exact ⟨by rw [HT.out]; rfl, by first | exact hb1 | exact hb1.alloc hb1.size _⟩
      · have k1i : ((x.kind : Int) == 1) = false := by simpa using (show (x.kind : Int) ≠ 1 by omega)
        by_cases hr0 : r = []
        · subst hr0
          have hm0 : m = 0 := hm
          subst hm0
          have hn2 : n = 1 := hn1
          subst hn2
          have HT : Hid (truthV [x] = (decide (x.num ≠ 0) || decide (x.text.toList ≠ []), 0)) := by show _ = _; unfold truthV; rw [if_pos hq]; simp only; rw [if_neg k1, if_pos trivial]
          have hok : okI x = true := by simpa using hq
          clear hn hm hn1 hq k1
          obtain ⟨xk, xa, xt, xd⟩ := x
          dsimp only at k1i HT
          by_cases k3 : xk = 3
          · subst k3
            have hz := ok3_num hok
            subst hz
            have HT2 : Hid (truthV [⟨3, 0, xt, xd⟩] = (decide (xt.toList ≠ []), 0)) := by show _ = _; rw [HT.out]; simp
            clear HT hok k1i
            go_enter Tryz.func10, Tryz.ntmps10
            go_wp2_with fail
            refine Hr.out.mono ?_
            rintro e w1 ⟨rfl, hb1⟩
            obtain ⟨b2, off2, e2, c0, c1, c2, c3⟩ := at0 (Ha.out.1.keep hb1)
            injection e2 with e2
            injection e2 with e2 e3
            subst e2 e3
            dsimp only at c0 c1 c2 c3
            have hB1 := hb1.alloc hb1.size (.cells #[.int .u8 3, .int .i64 0, .string xt, .int .i64 xd] 38)
            go_wp2
            go_ret2
            exact ⟨by rw [HT2.out]; simp; cases xt.toList <;> rfl, by first | exact hB1 | exact hb1⟩
          · have k3i : ((xk : Int) == 3) = false := by simpa using (show (xk : Int) ≠ 3 by omega)
            have hte := ok_text hok (by intro h; subst h; simp at k1i) k3
            subst hte
            by_cases hz : xa = 0
            · have hz1 : (xa != 0) = false := by simpa using hz
              have HT2 : Hid (truthV [⟨xk, xa, ⟨#[]⟩, xd⟩] = (false, 0)) := by show _ = _; rw [HT.out]; simp [hz]
              clear hz HT hok k3
              go_enter Tryz.func10, Tryz.ntmps10
              go_wp2_with fail
              refine Hr.out.mono ?_
              rintro e w1 ⟨rfl, hb1⟩
              obtain ⟨b2, off2, e2, c0, c1, c2, c3⟩ := at0 (Ha.out.1.keep hb1)
              injection e2 with e2
              injection e2 with e2 e3
              subst e2 e3
              dsimp only at c0 c1 c2 c3
              have hB1 := hb1.alloc hb1.size (.cells #[.int .u8 xk, .int .i64 xa, .string ⟨#[]⟩, .int .i64 xd] 38)
              go_wp2
              go_ret2
              exact ⟨by rw [HT2.out]; rfl, by first | exact hB1 | exact hb1⟩
            · have hz1 : (xa != 0) = true := by simpa using hz
              have HT2 : Hid (truthV [⟨xk, xa, ⟨#[]⟩, xd⟩] = (true, 0)) := by show _ = _; rw [HT.out]; simp [hz]
              clear hz HT hok k3
              go_enter Tryz.func10, Tryz.ntmps10
              go_wp2_with fail
              refine Hr.out.mono ?_
              rintro e w1 ⟨rfl, hb1⟩
              obtain ⟨b2, off2, e2, c0, c1, c2, c3⟩ := at0 (Ha.out.1.keep hb1)
              injection e2 with e2
              injection e2 with e2 e3
              subst e2 e3
              dsimp only at c0 c1 c2 c3
              have hB1 := hb1.alloc hb1.size (.cells #[.int .u8 xk, .int .i64 xa, .string ⟨#[]⟩, .int .i64 xd] 38)
              go_wp2
              go_ret2
              exact ⟨by rw [HT2.out]; rfl, by first | exact hB1 | exact hb1⟩
        · have HT : Hid (truthV (x :: r) = (false, 250)) := by show _ = _; unfold truthV; rw [if_pos hq]; simp only; rw [if_neg k1, if_neg hr0]
          have hm1 : (1 : Int) < (n : Int) := by
            have : r.length ≠ 0 := fun h => hr0 (List.length_eq_zero_iff.1 h)
            omega
          have hn3 : ((n : Int) == 0) = false := by simpa using (show (n : Int) ≠ 0 by omega)
          clear hn hm hq k1 hn1
          obtain ⟨xk, xa, xt, xd⟩ := x
          dsimp only at k1i
          go_enter Tryz.func10, Tryz.ntmps10
          go_wp2_with fail
          refine Hr.out.mono ?_
          rintro e w1 ⟨rfl, hb1⟩
          obtain ⟨b2, off2, e2, c0, c1, c2, c3⟩ := at0 (Ha.out.1.keep hb1)
          injection e2 with e2
          injection e2 with e2 e3
          subst e2 e3
          dsimp only at c0 c1 c2 c3
          go_wp2
          go_ret2
          exact ⟨by rw [HT.out]; rfl, by first | exact hb1 | exact hb1.alloc hb1.size _⟩
  · have HT : Hid (truthV l = (false, 2)) := by show _ = _; unfold truthV; rw [if_neg (by rw [hq]; decide)]
    rw [hq] at Hr
    clear hq hn
    go_enter Tryz.func10, Tryz.ntmps10
    go_wp2_with fail
    refine Hr.out.mono ?_
    rintro e w1 ⟨rfl, hb1⟩
    go_wp2
    go_ret2
    exact ⟨by rw [HT.out]; rfl, by first | exact hb1 | exact hb1.alloc hb1.size _⟩
set_option maxRecDepth 100000 in
set_option maxHeartbeats 4000000 in
theorem rstring_any (p : Option Addr) (n c : Nat) (l : List It) (w : World) (ha : OkA w ⟨p, l, c⟩) (hR : ∀ y ∈ l, R64 y.num) (hn : n = l.length) :
    Calls Tryz.prog 12 #[.slice p n c] w fun e w' => e = .returned (.tuple #[.string (strV l).1, .int .i64 (strV l).2]) ∧ Below w.heap.size w w' := by
  have Hr := hide (rrights_any p n c l w ha hn)
  have Ha := hide ha
  have hnl : n < 9223372036854775807 := by rw [hn]; exact ha.2.2
  clear ha
  rcases Bool.eq_false_or_eq_true (l.all okI) with hq | hq
  · match l with
    | [] =>
      have HT : Hid (strV [] = (⟨#[]⟩, 0)) := by show _ = _; rfl
      have hn0 : n = 0 := hn
      subst hn0
      rw [hq] at Hr
      clear hn hq
      go_enter Tryz.func12, Tryz.ntmps12
      go_wp2_with fail
      refine Hr.out.mono ?_
      rintro e w1 ⟨rfl, hb1⟩
      go_wp2
      go_ret2
      exact ⟨by rw [HT.out]; rfl, hb1⟩
    | x :: r =>
      have HR := hide (hR x (by simp))
      clear hR
      obtain ⟨m, hm⟩ : ∃ m, m = r.length := ⟨_, rfl⟩
      have hn1 : n = m + 1 := by rw [hn, List.length_cons, hm]
      rw [hq] at Hr
      obtain ⟨b, off, hp, _⟩ := at0 Ha.out.1
      dsimp only at hp
      subst hp
      have hix := ix_at0 b off n c (by omega)
      by_cases hr0 : r = []
      · subst hr0
        have hm0 : m = 0 := hm
        subst hm0
        have hn2 : n = 1 := hn1
        subst hn2
        have HT : Hid (strV [x] = (txt x, 0)) := by show _ = _; unfold strV; rw [if_pos hq]; simp only; rw [if_pos trivial]
        clear hn hm hn1 hq
        obtain ⟨xk, xa, xt, xd⟩ := x
        go_enter Tryz.func12, Tryz.ntmps12
        go_wp2_with fail
        refine Hr.out.mono ?_
        rintro e w1 ⟨rfl, hb1⟩
        obtain ⟨b2, off2, e2, c0, c1, c2, c3⟩ := at0 (Ha.out.1.keep hb1)
        injection e2 with e2
        injection e2 with e2 e3
        subst e2 e3
        dsimp only at c0 c1 c2 c3
        go_wp2_with fail
        refine (rtext_any xk xa xd xt _ HR.out).mono ?_
        rintro e w2 ⟨rfl, hb2⟩
        have hB2 := chain0 hb1 hb2
        clear hb2 c0 c1 c2 c3
        generalize txt ⟨xk, xa, xt, xd⟩ = tx at *
        go_wp2
        go_ret2
        exact ⟨by rw [HT.out]; rfl, hB2⟩
      · have HT : Hid (strV (x :: r) = (⟨#[]⟩, 253)) := by show _ = _; unfold strV; rw [if_pos hq]; simp only; rw [if_neg hr0]
        have hm1 : (1 : Int) < (n : Int) := by
          have : r.length ≠ 0 := fun h => hr0 (List.length_eq_zero_iff.1 h)
          omega
        clear hn hm hq hn1
        go_enter Tryz.func12, Tryz.ntmps12
        go_wp2_with fail
        refine Hr.out.mono ?_
        rintro e w1 ⟨rfl, hb1⟩
        go_wp2
        go_ret2
        exact ⟨by rw [HT.out]; rfl, hb1⟩
  · have HT : Hid (strV l = (⟨#[]⟩, 2)) := by show _ = _; unfold strV; rw [if_neg (by rw [hq]; decide)]
    rw [hq] at Hr
    clear hq hn hR
    go_enter Tryz.func12, Tryz.ntmps12
    go_wp2_with fail
    refine Hr.out.mono ?_
    rintro e w1 ⟨rfl, hb1⟩
    go_wp2
    go_ret2
    exact ⟨by rw [HT.out]; rfl, hb1⟩
end Go.Proofs.YtnhjphjdncaimaaGreatDoor
namespace Go.Proofs.YtnhjphjdncaimaaGreatDoor
open Go.RowKit
theorem oV_zero {x y : It} (h : ¬ oE x y = 0) : oV x y = 0 := by
  unfold oE at h
  unfold oV
  split at h
  · rename_i h1; rw [if_pos h1]
  · rename_i h1
    rw [if_neg h1]
    split at h
    · exact absurd rfl h
    · rename_i h2
      rw [if_neg h2]
      split at h
      · exact absurd rfl h
      · rename_i h3
        rw [if_neg h3]
        split at h
        · exact absurd rfl h
        · rename_i h4; rw [if_neg h4]
set_option maxRecDepth 100000 in
set_option maxHeartbeats 4000000 in
theorem rless_any (p q : Option Addr) (n m c d : Nat) (A B : List It) (w : World) (ha : OkA w ⟨p, A, c⟩) (hb : OkA w ⟨q, B, d⟩) (hn : n = A.length) (hm : m = B.length) :
    Calls Tryz.prog 14 #[.slice p n c, .slice q m d] w fun e w' => e = .returned (.tuple #[.bool (lessV A B).1, .int .i64 (lessV A B).2]) ∧ Below w.heap.size w w' := by
  have Hr1 := hide (rrights_any p n c A w ha hn)
  have Hr2 : Hid (∀ W, Below w.heap.size w W → Calls Tryz.prog 27 #[.slice q m d] W fun e w' => e = .returned (.bool (B.all okI)) ∧ Below W.heap.size W w') := fun W hW => rrights_any q m d B W ⟨hb.1.keep hW, hb.2⟩ hm
  have Ha := hide ha
  have Hb := hide hb
  have hnl : n < 9223372036854775807 := by rw [hn]; exact ha.2.2
  have hml : m < 9223372036854775807 := by rw [hm]; exact hb.2.2
  clear ha hb
  rcases Bool.eq_false_or_eq_true (A.all okI && B.all okI) with hq | hq
  · rw [(Bool.and_eq_true_iff.1 hq).1] at Hr1
    rw [(Bool.and_eq_true_iff.1 hq).2] at Hr2
    by_cases h1 : 1 < n
    · have HT : Hid (lessV A B = (false, 253)) := lessV_long hq (.inl (by omega))
      have h1i : (1 : Int) < (n : Int) := by omega
      clear hq hn hm
      go_enter Tryz.func14, Tryz.ntmps14
      go_wp2_with fail
      refine Hr1.out.mono ?_
      rintro e w0 ⟨rfl, hb0⟩
      go_wp2_with fail
      refine (Hr2.out w0 hb0).mono ?_
      rintro e w1 ⟨rfl, hbb⟩
      have hb1 := chain0 hb0 hbb
      clear hbb hb0
      go_wp2
      go_ret2
      exact ⟨by rw [HT.out]; rfl, hb1⟩
    · have h1i : ¬ (1 : Int) < (n : Int) := by omega
      by_cases h2 : 1 < m
      · have HT : Hid (lessV A B = (false, 253)) := lessV_long hq (.inr (by omega))
        have h2i : (1 : Int) < (m : Int) := by omega
        clear hq hn hm
        go_enter Tryz.func14, Tryz.ntmps14
        go_wp2_with fail
        refine Hr1.out.mono ?_
        rintro e w0 ⟨rfl, hb0⟩
        go_wp2_with fail
        refine (Hr2.out w0 hb0).mono ?_
        rintro e w1 ⟨rfl, hbb⟩
        have hb1 := chain0 hb0 hbb
        clear hbb hb0
        go_wp2
        go_ret2
        exact ⟨by rw [HT.out]; rfl, hb1⟩
      · have h2i : ¬ (1 : Int) < (m : Int) := by omega
        by_cases h3 : n = 0
        · subst h3
          have HT : Hid (lessV A B = (decide (0 < m), 0)) := by
            show _ = _
            rw [lessV_nil hq (by omega) (by omega) (.inl (by omega))]
            congr 1
            rw [Bool.eq_iff_iff, decide_eq_true_eq, decide_eq_true_eq]
            omega
          clear hq hn hm h1 h2 h1i
          go_enter Tryz.func14, Tryz.ntmps14
          go_wp2_with fail
          refine Hr1.out.mono ?_
          rintro e w0 ⟨rfl, hb0⟩
          go_wp2_with fail
          refine (Hr2.out w0 hb0).mono ?_
          rintro e w1 ⟨rfl, hbb⟩
          have hb1 := chain0 hb0 hbb
          clear hbb hb0
          go_wp2
          go_ret2
          exact ⟨by rw [HT.out]; rfl, hb1⟩
        · have hn1 : n = 1 := by omega
          subst hn1
          by_cases h4 : m = 0
          · subst h4
            have HT : Hid (lessV A B = (false, 0)) := by
              show _ = _
              rw [lessV_nil hq (by omega) (by omega) (.inr (by omega))]
              congr 1
              rw [decide_eq_false_iff_not]
              omega
            clear hq hn hm h1 h2 h1i h2i h3
            go_enter Tryz.func14, Tryz.ntmps14
            go_wp2_with fail
            refine Hr1.out.mono ?_
            rintro e w0 ⟨rfl, hb0⟩
            go_wp2_with fail
            refine (Hr2.out w0 hb0).mono ?_
            rintro e w1 ⟨rfl, hbb⟩
            have hb1 := chain0 hb0 hbb
            clear hbb hb0
            go_wp2
            go_ret2
            exact ⟨by rw [HT.out]; rfl, hb1⟩
          · have hm1 : m = 1 := by omega
            subst hm1
            obtain ⟨x, rfl⟩ : ∃ x, A = [x] := List.length_eq_one_iff.1 hn.symm
            obtain ⟨y, rfl⟩ : ∃ y, B = [y] := List.length_eq_one_iff.1 hm.symm
            have HT : Hid (lessV [x] [y] = (decide (oV x y < 0), oE x y)) := lessV_one hq
            have Hs1 := hide (Ha.out.2.1 x (by simp))
            have Hs2 := hide (Hb.out.2.1 y (by simp))
            obtain ⟨b, off, hp, _⟩ := at0 Ha.out.1
            dsimp only at hp
            subst hp
            obtain ⟨b2, off2, hp2, _⟩ := at0 Hb.out.1
            dsimp only at hp2
            subst hp2
            have hix := ix_at0 b off 1 c (by omega)
            have hix2 := ix_at0 b2 off2 1 d (by omega)
            obtain ⟨k1, a1, t1, d1⟩ := x
            obtain ⟨k2, a2, t2, d2⟩ := y
            clear hq hn hm h1 h2 h1i h2i h3 h4
            go_enter Tryz.func14, Tryz.ntmps14
            go_wp2_with fail
            refine Hr1.out.mono ?_
            rintro e w0 ⟨rfl, hb0⟩
            go_wp2_with fail
            refine (Hr2.out w0 hb0).mono ?_
            rintro e w1 ⟨rfl, hbb⟩
            have hb1 := chain0 hb0 hbb
            clear hbb hb0
            obtain ⟨b3, off3, e3, c0, c1, c2, c3⟩ := at0 (Ha.out.1.keep hb1)
            injection e3 with e3
            injection e3 with e3 e4
            subst e3 e4
            dsimp only at c0 c1 c2 c3
            obtain ⟨b3, off3, e3, q0, q1, q2, q3⟩ := at0 (Hb.out.1.keep hb1)
            injection e3 with e3
            injection e3 with e3 e4
            subst e3 e4
            dsimp only at q0 q1 q2 q3
            go_wp2_with fail
            have l0 := later_cell c0
            have l1 := later_cell c1
            have l2 := later_cell c2
            have l3 := later_cell c3
            have r0 := later_cell q0
            have r1 := later_cell q1
            have r2 := later_cell q2
            have r3 := later_cell q3
            clear c0 c1 c2 c3 q0 q1 q2 q3
            refine wp_region_later (by kernel_rfl) (by kernel_rfl) ?_
            repeat (go_big_quiet_step ((go_at_call 28; exact later_of (rorder_any k1 k2 a1 a2 d1 d2 t1 t2 _ Hs1.out Hs2.out))))
            refine wpQuiet_nil ?_
            intro _ hw'
            obtain ⟨y, hw''⟩ := hw'
            subst hw''
            have hB2 := chain0 hb1 y.2
            clear l0 l1 l2 l3 r0 r1 r2 r3
            have hno := oV_zero (x := ⟨k1, a1, t1, d1⟩) (y := ⟨k2, a2, t2, d2⟩)
            generalize oV ⟨k1, a1, t1, d1⟩ ⟨k2, a2, t2, d2⟩ = ov at *
            generalize oE ⟨k1, a1, t1, d1⟩ ⟨k2, a2, t2, d2⟩ = oe at *
            by_cases hoe : oe = 0
            · subst hoe
              clear hno
              by_cases hov : ov < 0
              · have HT2 : Hid (lessV [⟨k1, a1, t1, d1⟩] [⟨k2, a2, t2, d2⟩] = (true, 0)) := by show _ = _; rw [HT.out]; simp [hov]
                go_wp2
                go_ret2
                exact ⟨by rw [HT2.out]; rfl, hB2⟩
              · have HT2 : Hid (lessV [⟨k1, a1, t1, d1⟩] [⟨k2, a2, t2, d2⟩] = (false, 0)) := by show _ = _; rw [HT.out]; simp [hov]
                go_wp2
                go_ret2
                exact ⟨by rw [HT2.out]; rfl, hB2⟩
            · have hz := hno hoe
              subst hz
              have HT2 : Hid (lessV [⟨k1, a1, t1, d1⟩] [⟨k2, a2, t2, d2⟩] = (false, oe)) := by show _ = _; rw [HT.out]; rfl
              clear hno hoe
              go_wp2
              go_ret2
              exact ⟨by rw [HT2.out]; rfl, hB2⟩
  · have HT : Hid (lessV A B = (false, 2)) := by show _ = _; unfold lessV; rw [if_neg (by rw [hq]; decide)]
    rcases Bool.eq_false_or_eq_true (A.all okI) with hqa | hqa
    · have hqb : B.all okI = false := by rw [hqa, Bool.true_and] at hq; exact hq
      rw [hqa] at Hr1
      rw [hqb] at Hr2
      clear hq hn hm hqa hqb
      go_enter Tryz.func14, Tryz.ntmps14
      go_wp2_with fail
      refine Hr1.out.mono ?_
      rintro e w0 ⟨rfl, hb0⟩
      go_wp2_with fail
      refine (Hr2.out w0 hb0).mono ?_
      rintro e w1 ⟨rfl, hbb⟩
      have hb1 := chain0 hb0 hbb
      clear hbb hb0
      go_wp2
      go_ret2
      exact ⟨by rw [HT.out]; rfl, hb1⟩
    · rw [hqa] at Hr1
      clear hq hn hm hqa
      go_enter Tryz.func14, Tryz.ntmps14
      go_wp2_with fail
      refine Hr1.out.mono ?_
      rintro e w1 ⟨rfl, hb1⟩
      go_wp2
      go_ret2
      exact ⟨by rw [HT.out]; rfl, hb1⟩
end Go.Proofs.YtnhjphjdncaimaaGreatDoor
