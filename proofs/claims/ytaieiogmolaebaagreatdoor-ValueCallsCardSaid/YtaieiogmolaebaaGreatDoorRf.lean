/- The reference: plus, numbers. -/
import Derived.Test.YtaieiogmolaebaaGreatDoorC34
import Derived.Test.YtaieiogmolaebaaGreatDoorKv
import Derived.Test.YtaieiogmolaebaaGreatDoorC35
namespace Go.Proofs.YtaieiogmolaebaaGreatDoor
set_option maxRecDepth 100000
set_option maxHeartbeats 4000000
open Go.RowKit
theorem plus_wrap {a b c : Int} (ha : R64 a) (hb : R64 b) (hc : c = wrap64 (a + b)) : (decide (a < c) == decide (0 < b)) = fit (a + b) := by
 unfold R64 at ha hb
 subst hc
 by_cases hf : fit (a + b) = true
 ·have h1 := hf
  unfold fit at h1
  have h2 : -9223372036854775808 ≤ a + b ∧ a + b ≤ 9223372036854775807 := of_decide_eq_true h1
  have hw : wrap64 (a + b) = a + b := by unfold wrap64; omega
  rw [hf, hw]
  by_cases h0 : 0 < b
  ·rw [decide_eq_true (show a < a + b by omega), decide_eq_true h0]; rfl
  ·rw [decide_eq_false (show ¬ a < a + b by omega), decide_eq_false h0]; rfl
 ·have h1 : fit (a + b) = false := by simpa using hf
  have h2 : ¬ (-9223372036854775808 ≤ a + b ∧ a + b ≤ 9223372036854775807) := by unfold fit at h1; exact of_decide_eq_false h1
  rw [h1]
  by_cases h0 : 0 < b
  ·have hw : wrap64 (a + b) = a + b - 18446744073709551616 := by unfold wrap64; omega
   rw [hw, decide_eq_false (show ¬ a < a + b - 18446744073709551616 by omega), decide_eq_true h0]; rfl
  ·have hw : wrap64 (a + b) = a + b + 18446744073709551616 := by unfold wrap64; omega
   rw [hw, decide_eq_true (show a < a + b + 18446744073709551616 by omega), decide_eq_false h0]; rfl
theorem rplus_any (a b : Int) (ha : R64 a) (hb : R64 b) (w : World) : Calls Tryz.prog 74 #[.int .i64 a, .int .i64 b] w fun e w' => e = .returned (.tuple #[.int .i64 (opPlus a b).1, .bool (opPlus a b).2]) ∧ w = w' := by
 obtain ⟨c, hc⟩ : ∃ c, c = wrap64 (a + b) := ⟨_, rfl⟩
 have hp := hide (plus_wrap ha hb hc)
 show Calls _ _ _ _ fun e w' => e = .returned (.tuple #[.int .i64 (wrap64 (a + b)), .bool (fit (a + b))]) ∧ w = w'
 have hc2 : IntKind.i64.wrap (a + b) = c := by rw [IntKind.wrap_i64, hc]; unfold wrap64; omega
 have hc3 : (a + b + 9223372036854775808) % 18446744073709551616 - 9223372036854775808 = c := by rw [hc]; unfold wrap64; omega
 rw [← hc, ← hp.out]
 clear hp
 have Hc := hide hc
 clear hc ha hb
 go_enter Tryz.func74, Tryz.ntmps74
 go_wp2
 go_ret2
 exact ⟨rfl, rfl⟩
theorem rnumbers_sum (p : Option Addr) (n c : Nat) (l : List It) (w : World) (ha : OkA w ⟨p, l, c⟩) (hT : ∀ y ∈ l, y.kind = 4 → y.text = ⟨#[]⟩) (hR : ∀ y ∈ l, R64 y.num) (hn : n = l.length) (hl : 0 < n) :
  Calls Tryz.prog 42 #[.string ⟨#[115, 117, 109]⟩, .slice p n c] w (Res w (numR opPlus l).1 (numR opPlus l).2) := by
 have Ha := hide ha
 have Hn := hide hn
 have HR := hide hR
 have HT := hide hT
 have hnl : n < 9223372036854775807 := by rw [hn]; exact ha.2.2
 have hl0 : (0 : Int) < (n : Int) := by omega
 clear ha hn hR hT
 go_enter Tryz.func42, Tryz.ntmps42
 go_wp2_with fail
 go_loopw [7, 8] (fun v iv W => ∃ (acc : Int) (k : Nat), k ≤ n ∧ v = .int .i64 acc ∧ iv = .int .i64 k ∧ Hid (numF opPlus (decide (k = 0)) acc (l.drop k) = numF opPlus true 0 l) ∧ R64 acc ∧ Hid (k = 0 → acc = 0) ∧ Below w.heap.size w W) (fun _ iv _ => n - (intOf iv).toNat)
 case atStart => exact ⟨0, 0, Nat.zero_le _, rfl, rfl, hide rfl, by unfold R64; decide, hide (fun _ => rfl), Below.refl _ _⟩
 case round =>
  obtain ⟨acc, k, hk, rfl, rfl, Hk, hA, H0, hB⟩ := hrel
  have HA := hide hA
  clear hA
  by_cases hlt : k < n
  ·have hI : (k : Int) < (n : Int) := by omega
   obtain ⟨x, hx⟩ : ∃ x, l[k]? = some x := ⟨_, List.getElem?_eq_getElem (by have := Hn.out; omega)⟩
   obtain ⟨b1, off1, e1, c0, c1, c2, c3⟩ := (Ha.out.1.keep hB).at k x hx
   dsimp only at e1
   subst e1
   have hs1 := Ha.out.2.1 x (List.mem_of_getElem? hx)
   have hix := ix_item b1 off1 n c k hlt
   have Hst := hide (drop_at l k x hx)
   have HxR := hide (HR.out x (List.mem_of_getElem? hx))
   have HxT := hide (HT.out x (List.mem_of_getElem? hx))
   clear hx
   obtain ⟨xk, xa, xt, xd⟩ := x
   dsimp only at c0 c1 c2 c3 hs1
   go_wp2_with fail
   refine (rnumber_any xk xa xd xt _ HxT.out hs1).mono ?_
   rintro e w1 ⟨rfl, hb1⟩
   have hB3 := chain0 hB hb1
   have HnR := hide (nV_R (x := ⟨xk, xa, xt, xd⟩) HxR.out)
   clear hb1 c0 c1 c2 c3 hB hix
   rw [Hst.out] at Hk
   have Hk2 : Hid ((if nE ⟨xk, xa, xt, xd⟩ = 0 then (if decide (k = 0) = true then numF opPlus false (nV ⟨xk, xa, xt, xd⟩) (l.drop (k + 1)) else if (opPlus acc (nV ⟨xk, xa, xt, xd⟩)).2 = true then numF opPlus false (opPlus acc (nV ⟨xk, xa, xt, xd⟩)).1 (l.drop (k + 1)) else (0, 251)) else (0, nE ⟨xk, xa, xt, xd⟩)) = numF opPlus true 0 l) := Hk.out
   clear Hk Hst
   generalize nV ⟨xk, xa, xt, xd⟩ = nv at *
   generalize nE ⟨xk, xa, xt, xd⟩ = ne at *
   by_cases hz : ne = 0
   ·subst hz
    have Hk3 : Hid ((if (opPlus acc nv).2 = true then numF opPlus false (opPlus acc nv).1 (l.drop (k + 1)) else (0, 251)) = numF opPlus true 0 l) := by
     show _ = _
     rw [← Hk2.out, if_pos (rfl : (0 : Int) = 0)]
     by_cases hk0 : k = 0
     ·have h0 := H0.out hk0
      have hr := HnR.out
      unfold R64 at hr
      have e1 : (opPlus acc nv).2 = true := by
       rw [h0]; show fit (0 + nv) = true
       unfold fit; rw [decide_eq_true]; omega
      have e2 : (opPlus acc nv).1 = nv := by
       rw [h0]; show wrap64 (0 + nv) = nv
       unfold wrap64; omega
      rw [if_pos e1, if_pos (by simpa using hk0), e2]
     ·rw [if_neg (c := decide (k = 0) = true) (by simpa using hk0)]
    clear Hk2
    go_wp2_with fail
    refine (rplus_any acc nv HA.out HnR.out _).mono ?_
    rintro e w2 ⟨rfl, rfl⟩
    rcases Bool.eq_false_or_eq_true (opPlus acc nv).2 with hf | hf
    ·have Hk4 : Hid (numF opPlus (decide (k + 1 = 0)) (opPlus acc nv).1 (l.drop (k + 1)) = numF opPlus true 0 l) := by show _ = _; rw [← Hk3.out, if_pos hf]; rfl
     have HmR : Hid (R64 (opPlus acc nv).1) := wrap_R _
     rw [hf]
     generalize (opPlus acc nv).1 = r1 at *
     clear Hk3 hf
     go_wp2
     go_roundw
     case rel => exact ⟨r1, k + 1, by omega, rfl, by simp, Hk4, HmR.out, hide (fun h => absurd h (Nat.succ_ne_zero k)), hB3⟩
     case measure => simp [intOf]; omega
    ·have HX : Hid (numR opPlus l = ([], 251)) := numR_bad (v := 0) (by rw [← Hk3.out, if_neg (by rw [hf]; decide)]) (by decide)
     rw [hf]
     generalize (opPlus acc nv).1 = r1 at *
     clear Hk3 hf
     go_wp2
     go_ret2
     exact ⟨.slice none 0 0, by rw [HX.out]; rfl, by rw [HX.out]; exact OwI.nil _ _, hB3⟩
   ·have hz1 : (ne != 0) = true := by simpa using hz
    have HX : Hid (numR opPlus l = ([], ne)) := numR_bad (v := 0) (by rw [← Hk2.out]; exact if_neg hz) hz
    clear Hk2 hz
    go_wp2
    go_ret2
    exact ⟨.slice none 0 0, by rw [HX.out]; rfl, by rw [HX.out]; exact OwI.nil _ _, hB3⟩
  ·have hI : ¬ (k : Int) < (n : Int) := by omega
   have HX : Hid (numR opPlus l = ([⟨2, acc, ⟨#[]⟩, 0⟩], 0)) := numR_ok (by rw [← Hk.out, List.drop_eq_nil_of_le (by have := Hn.out; omega)]; rfl)
   clear Hk
   go_wp2_with fail
   refine (rwhole_own acc _).mono ?_
   rintro e w2 ⟨v, rfl, ho, hb2⟩
   have Ho := hide (ho.mono hB.size)
   have hB3 := chain0 hB hb2
   clear ho hb2
   go_wp2
   go_ret2
   exact ⟨v, by rw [HX.out]; rfl, by rw [HX.out]; exact Ho.out, hB3⟩
theorem rnumbers_min (p : Option Addr) (n c : Nat) (l : List It) (w : World) (ha : OkA w ⟨p, l, c⟩) (hT : ∀ y ∈ l, y.kind = 4 → y.text = ⟨#[]⟩) (hR : ∀ y ∈ l, R64 y.num) (hn : n = l.length) (hl : 0 < n) :
  Calls Tryz.prog 42 #[.string ⟨#[109, 105, 110]⟩, .slice p n c] w (Res w (numR opLeast l).1 (numR opLeast l).2) := by
 have Ha := hide ha
 have Hn := hide hn
 have HR := hide hR
 have HT := hide hT
 have hnl : n < 9223372036854775807 := by rw [hn]; exact ha.2.2
 have hl0 : (0 : Int) < (n : Int) := by omega
 clear ha hn hR hT
 go_enter Tryz.func42, Tryz.ntmps42
 go_wp2_with fail
 go_loopw [7, 8] (fun v iv W => ∃ (acc : Int) (k : Nat), k ≤ n ∧ v = .int .i64 acc ∧ iv = .int .i64 k ∧ Hid (numF opLeast (decide (k = 0)) acc (l.drop k) = numF opLeast true 0 l) ∧ R64 acc ∧ Hid (k = 0 → acc = 0) ∧ Below w.heap.size w W) (fun _ iv _ => n - (intOf iv).toNat)
 case atStart => exact ⟨0, 0, Nat.zero_le _, rfl, rfl, hide rfl, by unfold R64; decide, hide (fun _ => rfl), Below.refl _ _⟩
 case round =>
  obtain ⟨acc, k, hk, rfl, rfl, Hk, hA, H0, hB⟩ := hrel
  have HA := hide hA
  clear hA
  by_cases hlt : k < n
  ·have hI : (k : Int) < (n : Int) := by omega
   obtain ⟨x, hx⟩ : ∃ x, l[k]? = some x := ⟨_, List.getElem?_eq_getElem (by have := Hn.out; omega)⟩
   obtain ⟨b1, off1, e1, c0, c1, c2, c3⟩ := (Ha.out.1.keep hB).at k x hx
   dsimp only at e1
   subst e1
   have hs1 := Ha.out.2.1 x (List.mem_of_getElem? hx)
   have hix := ix_item b1 off1 n c k hlt
   have Hst := hide (drop_at l k x hx)
   have HxR := hide (HR.out x (List.mem_of_getElem? hx))
   have HxT := hide (HT.out x (List.mem_of_getElem? hx))
   clear hx
   obtain ⟨xk, xa, xt, xd⟩ := x
   dsimp only at c0 c1 c2 c3 hs1
   go_wp2_with fail
   refine (rnumber_any xk xa xd xt _ HxT.out hs1).mono ?_
   rintro e w1 ⟨rfl, hb1⟩
   have hB3 := chain0 hB hb1
   have HnR := hide (nV_R (x := ⟨xk, xa, xt, xd⟩) HxR.out)
   clear hb1 c0 c1 c2 c3 hB hix
   rw [Hst.out] at Hk
   have Hk2 : Hid ((if nE ⟨xk, xa, xt, xd⟩ = 0 then (if decide (k = 0) = true then numF opLeast false (nV ⟨xk, xa, xt, xd⟩) (l.drop (k + 1)) else if (opLeast acc (nV ⟨xk, xa, xt, xd⟩)).2 = true then numF opLeast false (opLeast acc (nV ⟨xk, xa, xt, xd⟩)).1 (l.drop (k + 1)) else (0, 251)) else (0, nE ⟨xk, xa, xt, xd⟩)) = numF opLeast true 0 l) := Hk.out
   clear Hk Hst
   generalize nV ⟨xk, xa, xt, xd⟩ = nv at *
   generalize nE ⟨xk, xa, xt, xd⟩ = ne at *
   by_cases hz : ne = 0
   ·subst hz
    obtain ⟨r1, hr1⟩ : ∃ r, r = if k = 0 then nv else (opLeast acc nv).1 := ⟨_, rfl⟩
    have Hk3 : Hid (numF opLeast (decide (k + 1 = 0)) r1 (l.drop (k + 1)) = numF opLeast true 0 l) := by
     show _ = _
     rw [← Hk2.out, if_pos (rfl : (0 : Int) = 0), hr1]
     by_cases hk0 : k = 0
     ·rw [if_pos hk0, if_pos (c := decide (k = 0) = true) (by simpa using hk0)]; rfl
     ·rw [if_neg hk0, if_neg (c := decide (k = 0) = true) (by simpa using hk0), if_pos (c := (opLeast acc nv).2 = true) rfl]; rfl
    have HmR : Hid (R64 r1) := by
     show R64 r1
     rw [hr1]
     split
     ·exact HnR.out
     ·exact min_R HA.out HnR.out
    clear Hk2
    by_cases hk0 : k = 0
    ·have e1 : r1 = nv := by rw [hr1, if_pos hk0]
     subst e1
     have hk1 : (k : Int) = 0 := by omega
     have hk2 : ((k : Int) == 0) = true := by simpa using hk1
     have Hkk := hide hk0
     clear hr1 hk1 hk0 H0
     go_wp2
     go_roundw
     case rel => exact ⟨r1, k + 1, by omega, rfl, by simp, Hk3, HmR.out, hide (fun h => absurd h (Nat.succ_ne_zero k)), hB3⟩
     case measure => simp [intOf]; omega
    ·have hk1 : ¬ (k : Int) = 0 := by omega
     have hk2 : ((k : Int) == 0) = false := by simpa using hk1
     by_cases hm : (nv<acc)
     ·have e1 : r1 = nv := by rw [hr1, if_neg hk0]; show (min acc nv) = nv; omega
      subst e1
      clear hr1 hk0 H0
      go_wp2
      go_roundw
      case rel => exact ⟨r1, k + 1, by omega, rfl, by simp, Hk3, HmR.out, hide (fun h => absurd h (Nat.succ_ne_zero k)), hB3⟩
      case measure => simp [intOf]; omega
     ·have e1 : r1 = acc := by rw [hr1, if_neg hk0]; show (min acc nv) = acc; omega
      subst e1
      clear hr1 hk0 H0
      go_wp2
      go_roundw
      case rel => exact ⟨r1, k + 1, by omega, rfl, by simp, Hk3, HmR.out, hide (fun h => absurd h (Nat.succ_ne_zero k)), hB3⟩
      case measure => simp [intOf]; omega
   ·have hz1 : (ne != 0) = true := by simpa using hz
    have HX : Hid (numR opLeast l = ([], ne)) := numR_bad (v := 0) (by rw [← Hk2.out]; exact if_neg hz) hz
    clear Hk2 hz
    go_wp2
    go_ret2
    exact ⟨.slice none 0 0, by rw [HX.out]; rfl, by rw [HX.out]; exact OwI.nil _ _, hB3⟩
  ·have hI : ¬ (k : Int) < (n : Int) := by omega
   have HX : Hid (numR opLeast l = ([⟨2, acc, ⟨#[]⟩, 0⟩], 0)) := numR_ok (by rw [← Hk.out, List.drop_eq_nil_of_le (by have := Hn.out; omega)]; rfl)
   clear Hk
   go_wp2_with fail
   refine (rwhole_own acc _).mono ?_
   rintro e w2 ⟨v, rfl, ho, hb2⟩
   have Ho := hide (ho.mono hB.size)
   have hB3 := chain0 hB hb2
   clear ho hb2
   go_wp2
   go_ret2
   exact ⟨v, by rw [HX.out]; rfl, by rw [HX.out]; exact Ho.out, hB3⟩
theorem rnumbers_max (p : Option Addr) (n c : Nat) (l : List It) (w : World) (ha : OkA w ⟨p, l, c⟩) (hT : ∀ y ∈ l, y.kind = 4 → y.text = ⟨#[]⟩) (hR : ∀ y ∈ l, R64 y.num) (hn : n = l.length) (hl : 0 < n) :
  Calls Tryz.prog 42 #[.string ⟨#[109, 97, 120]⟩, .slice p n c] w (Res w (numR opMost l).1 (numR opMost l).2) := by
 have Ha := hide ha
 have Hn := hide hn
 have HR := hide hR
 have HT := hide hT
 have hnl : n < 9223372036854775807 := by rw [hn]; exact ha.2.2
 have hl0 : (0 : Int) < (n : Int) := by omega
 clear ha hn hR hT
 go_enter Tryz.func42, Tryz.ntmps42
 go_wp2_with fail
 go_loopw [7, 8] (fun v iv W => ∃ (acc : Int) (k : Nat), k ≤ n ∧ v = .int .i64 acc ∧ iv = .int .i64 k ∧ Hid (numF opMost (decide (k = 0)) acc (l.drop k) = numF opMost true 0 l) ∧ R64 acc ∧ Hid (k = 0 → acc = 0) ∧ Below w.heap.size w W) (fun _ iv _ => n - (intOf iv).toNat)
 case atStart => exact ⟨0, 0, Nat.zero_le _, rfl, rfl, hide rfl, by unfold R64; decide, hide (fun _ => rfl), Below.refl _ _⟩
 case round =>
  obtain ⟨acc, k, hk, rfl, rfl, Hk, hA, H0, hB⟩ := hrel
  have HA := hide hA
  clear hA
  by_cases hlt : k < n
  ·have hI : (k : Int) < (n : Int) := by omega
   obtain ⟨x, hx⟩ : ∃ x, l[k]? = some x := ⟨_, List.getElem?_eq_getElem (by have := Hn.out; omega)⟩
   obtain ⟨b1, off1, e1, c0, c1, c2, c3⟩ := (Ha.out.1.keep hB).at k x hx
   dsimp only at e1
   subst e1
   have hs1 := Ha.out.2.1 x (List.mem_of_getElem? hx)
   have hix := ix_item b1 off1 n c k hlt
   have Hst := hide (drop_at l k x hx)
   have HxR := hide (HR.out x (List.mem_of_getElem? hx))
   have HxT := hide (HT.out x (List.mem_of_getElem? hx))
   clear hx
   obtain ⟨xk, xa, xt, xd⟩ := x
   dsimp only at c0 c1 c2 c3 hs1
   go_wp2_with fail
   refine (rnumber_any xk xa xd xt _ HxT.out hs1).mono ?_
   rintro e w1 ⟨rfl, hb1⟩
   have hB3 := chain0 hB hb1
   have HnR := hide (nV_R (x := ⟨xk, xa, xt, xd⟩) HxR.out)
   clear hb1 c0 c1 c2 c3 hB hix
   rw [Hst.out] at Hk
   have Hk2 : Hid ((if nE ⟨xk, xa, xt, xd⟩ = 0 then (if decide (k = 0) = true then numF opMost false (nV ⟨xk, xa, xt, xd⟩) (l.drop (k + 1)) else if (opMost acc (nV ⟨xk, xa, xt, xd⟩)).2 = true then numF opMost false (opMost acc (nV ⟨xk, xa, xt, xd⟩)).1 (l.drop (k + 1)) else (0, 251)) else (0, nE ⟨xk, xa, xt, xd⟩)) = numF opMost true 0 l) := Hk.out
   clear Hk Hst
   generalize nV ⟨xk, xa, xt, xd⟩ = nv at *
   generalize nE ⟨xk, xa, xt, xd⟩ = ne at *
   by_cases hz : ne = 0
   ·subst hz
    obtain ⟨r1, hr1⟩ : ∃ r, r = if k = 0 then nv else (opMost acc nv).1 := ⟨_, rfl⟩
    have Hk3 : Hid (numF opMost (decide (k + 1 = 0)) r1 (l.drop (k + 1)) = numF opMost true 0 l) := by
     show _ = _
     rw [← Hk2.out, if_pos (rfl : (0 : Int) = 0), hr1]
     by_cases hk0 : k = 0
     ·rw [if_pos hk0, if_pos (c := decide (k = 0) = true) (by simpa using hk0)]; rfl
     ·rw [if_neg hk0, if_neg (c := decide (k = 0) = true) (by simpa using hk0), if_pos (c := (opMost acc nv).2 = true) rfl]; rfl
    have HmR : Hid (R64 r1) := by
     show R64 r1
     rw [hr1]
     split
     ·exact HnR.out
     ·exact max_R HA.out HnR.out
    clear Hk2
    by_cases hk0 : k = 0
    ·have e1 : r1 = nv := by rw [hr1, if_pos hk0]
     subst e1
     have hk1 : (k : Int) = 0 := by omega
     have hk2 : ((k : Int) == 0) = true := by simpa using hk1
     have Hkk := hide hk0
     clear hr1 hk1 hk0 H0
     go_wp2
     go_roundw
     case rel => exact ⟨r1, k + 1, by omega, rfl, by simp, Hk3, HmR.out, hide (fun h => absurd h (Nat.succ_ne_zero k)), hB3⟩
     case measure => simp [intOf]; omega
    ·have hk1 : ¬ (k : Int) = 0 := by omega
     have hk2 : ((k : Int) == 0) = false := by simpa using hk1
     by_cases hm : (acc<nv)
     ·have e1 : r1 = nv := by rw [hr1, if_neg hk0]; show (max acc nv) = nv; omega
      subst e1
      clear hr1 hk0 H0
      go_wp2
      go_roundw
      case rel => exact ⟨r1, k + 1, by omega, rfl, by simp, Hk3, HmR.out, hide (fun h => absurd h (Nat.succ_ne_zero k)), hB3⟩
      case measure => simp [intOf]; omega
     ·have e1 : r1 = acc := by rw [hr1, if_neg hk0]; show (max acc nv) = acc; omega
      subst e1
      clear hr1 hk0 H0
      go_wp2
      go_roundw
      case rel => exact ⟨r1, k + 1, by omega, rfl, by simp, Hk3, HmR.out, hide (fun h => absurd h (Nat.succ_ne_zero k)), hB3⟩
      case measure => simp [intOf]; omega
   ·have hz1 : (ne != 0) = true := by simpa using hz
    have HX : Hid (numR opMost l = ([], ne)) := numR_bad (v := 0) (by rw [← Hk2.out]; exact if_neg hz) hz
    clear Hk2 hz
    go_wp2
    go_ret2
    exact ⟨.slice none 0 0, by rw [HX.out]; rfl, by rw [HX.out]; exact OwI.nil _ _, hB3⟩
  ·have hI : ¬ (k : Int) < (n : Int) := by omega
   have HX : Hid (numR opMost l = ([⟨2, acc, ⟨#[]⟩, 0⟩], 0)) := numR_ok (by rw [← Hk.out, List.drop_eq_nil_of_le (by have := Hn.out; omega)]; rfl)
   clear Hk
   go_wp2_with fail
   refine (rwhole_own acc _).mono ?_
   rintro e w2 ⟨v, rfl, ho, hb2⟩
   have Ho := hide (ho.mono hB.size)
   have hB3 := chain0 hB hb2
   clear ho hb2
   go_wp2
   go_ret2
   exact ⟨v, by rw [HX.out]; rfl, by rw [HX.out]; exact Ho.out, hB3⟩
end Go.Proofs.YtaieiogmolaebaaGreatDoor
