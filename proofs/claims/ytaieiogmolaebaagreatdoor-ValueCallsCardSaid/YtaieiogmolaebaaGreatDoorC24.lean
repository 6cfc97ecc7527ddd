/- value.numbers: the numbers of a row put together. value.ofNumbers at sum, min, max. value.ofNumbers at abs, number. -/
import Derived.Test.YtaieiogmolaebaaGreatDoorC22
import Derived.Test.YtaieiogmolaebaaGreatDoorC23
namespace Go.Proofs.YtaieiogmolaebaaGreatDoor
set_option maxRecDepth 100000
set_option maxHeartbeats 4000000
open Go.RowKit
def numF (op : Int → Int → Int × Bool) : Bool → Int → List It → Int × Int
 | _, n, [] => (n, 0)
 | first, n, x :: r => if nE x = 0 then (if first = true then numF op false (nV x) r else if (op n (nV x)).2 = true then numF op false (op n (nV x)).1 r else (0, 251)) else (0, nE x)
def numR (op : Int → Int → Int × Bool) (l : List It) : List It × Int := if (numF op true 0 l).2 = 0 then ([⟨2, (numF op true 0 l).1, ⟨#[]⟩, 0⟩], 0) else ([], (numF op true 0 l).2)
def opPlus (a b : Int) : Int × Bool := (wrap64 (a + b), fit (a + b))
def opLeast (a b : Int) : Int × Bool := (min a b, true)
def opMost (a b : Int) : Int × Bool := (max a b, true)
theorem numR_bad {op : Int → Int → Int × Bool} {l : List It} {e v : Int} (h : numF op true 0 l = (v, e)) (he : e ≠ 0) : numR op l = ([], e) := by unfold numR; rw [h]; exact if_neg he
theorem numR_ok {op : Int → Int → Int × Bool} {l : List It} {v : Int} (h : numF op true 0 l = (v, 0)) : numR op l = ([⟨2, v, ⟨#[]⟩, 0⟩], 0) := by unfold numR; rw [h]; exact if_pos rfl
theorem min_R {a b : Int} (ha : R64 a) (hb : R64 b) : R64 (min a b) := by unfold R64 at *; omega
theorem max_R {a b : Int} (ha : R64 a) (hb : R64 b) : R64 (max a b) := by unfold R64 at *; omega
theorem least_any (a b : Int) (w : World) : Calls Tryz.prog 61 #[.int .i64 a, .int .i64 b] w fun e w' => e = .returned (.tuple #[.int .i64 (opLeast a b).1, .bool (opLeast a b).2]) ∧ w = w' := by
 show Calls _ _ _ _ fun e w' => e = .returned (.tuple #[.int .i64 (min a b), .bool true]) ∧ w = w'
 go_enter Tryz.func61, Tryz.ntmps61
 go_wp2
 go_ret2
 exact ⟨rfl, rfl⟩
theorem most_any (a b : Int) (w : World) : Calls Tryz.prog 62 #[.int .i64 a, .int .i64 b] w fun e w' => e = .returned (.tuple #[.int .i64 (opMost a b).1, .bool (opMost a b).2]) ∧ w = w' := by
 show Calls _ _ _ _ fun e w' => e = .returned (.tuple #[.int .i64 (max a b), .bool true]) ∧ w = w'
 go_enter Tryz.func62, Tryz.ntmps62
 go_wp2
 go_ret2
 exact ⟨rfl, rfl⟩
theorem plusO_any (a b : Int) (ha : R64 a) (hb : R64 b) (w : World) : Calls Tryz.prog 60 #[.int .i64 a, .int .i64 b] w fun e w' => e = .returned (.tuple #[.int .i64 (opPlus a b).1, .bool (opPlus a b).2]) ∧ w = w' := plus_any a b ha hb w
theorem numbers_plus (p : Option Addr) (n c : Nat) (l : List It) (w : World) (he : Env w) (ha : OkA w ⟨p, l, c⟩) (hR : ∀ y ∈ l, R64 y.num) (hn : n = l.length) :
  Calls Tryz.prog 59 #[.slice p n c, .func (.func 60) #[] #[]] w (Res w (numR opPlus l).1 (numR opPlus l).2) := by
 have Ha := hide ha
 have He := hide he
 have Hn := hide hn
 have HR := hide hR
 have hnl : n < 9223372036854775807 := by rw [hn]; exact ha.2.2
 clear ha he hn hR
 go_enter Tryz.func59, Tryz.ntmps59
 go_wp2_with fail
 go_loopw [6, 14] (fun v iv W => ∃ (acc : Int) (k : Nat), k ≤ n ∧ v = .int .i64 acc ∧ iv = .int .i64 k ∧ Hid (numF opPlus (decide (k = 0)) acc (l.drop k) = numF opPlus true 0 l) ∧ R64 acc ∧ Below w.heap.size w W) (fun _ iv _ => n - (intOf iv).toNat)
 case atStart => exact ⟨0, 0, Nat.zero_le _, rfl, rfl, hide rfl, by unfold R64; decide, Below.refl _ _⟩
 case round =>
  obtain ⟨acc, k, hk, rfl, rfl, Hk, hA, hB⟩ := hrel
  have HA := hide hA
  clear hA
  by_cases hlt : k < n
  ·have hI : (k : Int) < (n : Int) := by omega
   obtain ⟨x, hx⟩ : ∃ x, l[k]? = some x := ⟨_, List.getElem?_eq_getElem (by have := Hn.out; omega)⟩
   obtain ⟨b1, off1, e1, c0, c1, c2, c3⟩ := (Ha.out.1.keep hB).at k x hx
   dsimp only at e1
   subst e1
   have hs1 := Ha.out.2.1 x (List.mem_of_getElem? hx)
   have hix := ix_item b1 off1 n c k hlt
   have Hst := hide (drop_at l k x hx)
   have HxR := hide (HR.out x (List.mem_of_getElem? hx))
   clear hx
   obtain ⟨xk, xa, xt, xd⟩ := x
   dsimp only at c0 c1 c2 c3 hs1
   have hB2 := hB.alloc hB.size (.cells #[.int .u8 xk, .int .i64 xa, .string xt, .int .i64 xd] 36)
   go_wp2_with fail
   refine (number_any xk xa xd xt _ (He.out.keep hB2) hs1).mono ?_
   rintro e w1 ⟨rfl, hb1⟩
   have hB3 := chain0 hB2 hb1
   have HnR := hide (nV_R (x := ⟨xk, xa, xt, xd⟩) HxR.out)
   clear hb1 c0 c1 c2 c3 hB2 hB hix
   rw [Hst.out] at Hk
   have Hk2 : Hid ((if nE ⟨xk, xa, xt, xd⟩ = 0 then (if decide (k = 0) = true then numF opPlus false (nV ⟨xk, xa, xt, xd⟩) (l.drop (k + 1)) else if (opPlus acc (nV ⟨xk, xa, xt, xd⟩)).2 = true then numF opPlus false (opPlus acc (nV ⟨xk, xa, xt, xd⟩)).1 (l.drop (k + 1)) else (0, 251)) else (0, nE ⟨xk, xa, xt, xd⟩)) = numF opPlus true 0 l) := Hk.out
   clear Hk Hst
   generalize nV ⟨xk, xa, xt, xd⟩ = nv at *
   generalize nE ⟨xk, xa, xt, xd⟩ = ne at *
   by_cases hz : ne = 0
   ·subst hz
    by_cases hk0 : k = 0
    ·subst hk0
     have Hk3 : Hid (numF opPlus (decide (0 + 1 = 0)) nv (l.drop (0 + 1)) = numF opPlus true 0 l) := Hk2.out
     clear Hk2
     go_wp2
     go_roundw
     case rel => exact ⟨nv, 1, by omega, rfl, by simp, Hk3, HnR.out, hB3⟩
     case measure => simp [intOf]; omega
    ·have hk1 : (0 : Int) < (k : Int) := by omega
     have hk2 : 0 < k := by omega
     go_wp2_with fail
     refine (plusO_any acc nv HA.out HnR.out _).mono ?_
     rintro e w2 ⟨rfl, rfl⟩
     rcases Bool.eq_false_or_eq_true (opPlus acc nv).2 with hf | hf
     ·have Hk3 : Hid (numF opPlus (decide (k + 1 = 0)) (opPlus acc nv).1 (l.drop (k + 1)) = numF opPlus true 0 l) := by show _ = _; rw [← Hk2.out, if_pos trivial, if_neg (by simpa using hk0), if_pos hf]; rfl
      have HmR : Hid (R64 (opPlus acc nv).1) := wrap_R _
      rw [hf]
      generalize (opPlus acc nv).1 = r1 at *
      clear Hk2 hk0 hf
      go_wp2
      go_roundw
      case rel => exact ⟨r1, k + 1, by omega, rfl, by simp, Hk3, HmR.out, hB3⟩
      case measure => simp [intOf]; omega
     ·have HX : Hid (numR opPlus l = ([], 251)) := numR_bad (v := 0) (by rw [← Hk2.out, if_pos trivial, if_neg (by simpa using hk0), if_neg (by rw [hf]; decide)]) (by decide)
      rw [hf]
      generalize (opPlus acc nv).1 = r1 at *
      clear Hk2 hk0 hf
      go_wp2
      go_ret2
      exact ⟨.slice none 0 0, by rw [HX.out]; rfl, by rw [HX.out]; exact OwI.nil _ _, hB3⟩
   ·have hz1 : (ne != 0) = true := by simpa using hz
    have HX : Hid (numR opPlus l = ([], ne)) := numR_bad (v := 0) (by rw [← Hk2.out]; exact if_neg hz) hz
    clear Hk2 hz
    go_wp2
    go_ret2
    exact ⟨.slice none 0 0, by rw [HX.out]; rfl, by rw [HX.out]; exact OwI.nil _ _, hB3⟩
  ·have hI : ¬ (k : Int) < (n : Int) := by omega
   have HX : Hid (numR opPlus l = ([⟨2, acc, ⟨#[]⟩, 0⟩], 0)) := numR_ok (by rw [← Hk.out, List.drop_eq_nil_of_le (by have := Hn.out; omega)]; rfl)
   clear Hk
   go_wp2_with fail
   refine (vwhole_own acc _).mono ?_
   rintro e w2 ⟨v, rfl, ho, hb2⟩
   have Ho := hide (ho.mono hB.size)
   have hB3 := chain0 hB hb2
   clear ho hb2
   go_wp2
   go_ret2
   exact ⟨v, by rw [HX.out]; rfl, by rw [HX.out]; exact Ho.out, hB3⟩
theorem numbers_least (p : Option Addr) (n c : Nat) (l : List It) (w : World) (he : Env w) (ha : OkA w ⟨p, l, c⟩) (hR : ∀ y ∈ l, R64 y.num) (hn : n = l.length) :
  Calls Tryz.prog 59 #[.slice p n c, .func (.func 61) #[] #[]] w (Res w (numR opLeast l).1 (numR opLeast l).2) := by
 have Ha := hide ha
 have He := hide he
 have Hn := hide hn
 have HR := hide hR
 have hnl : n < 9223372036854775807 := by rw [hn]; exact ha.2.2
 clear ha he hn hR
 go_enter Tryz.func59, Tryz.ntmps59
 go_wp2_with fail
 go_loopw [6, 14] (fun v iv W => ∃ (acc : Int) (k : Nat), k ≤ n ∧ v = .int .i64 acc ∧ iv = .int .i64 k ∧ Hid (numF opLeast (decide (k = 0)) acc (l.drop k) = numF opLeast true 0 l) ∧ R64 acc ∧ Below w.heap.size w W) (fun _ iv _ => n - (intOf iv).toNat)
 case atStart => exact ⟨0, 0, Nat.zero_le _, rfl, rfl, hide rfl, by unfold R64; decide, Below.refl _ _⟩
 case round =>
  obtain ⟨acc, k, hk, rfl, rfl, Hk, hA, hB⟩ := hrel
  have HA := hide hA
  clear hA
  by_cases hlt : k < n
  ·have hI : (k : Int) < (n : Int) := by omega
   obtain ⟨x, hx⟩ : ∃ x, l[k]? = some x := ⟨_, List.getElem?_eq_getElem (by have := Hn.out; omega)⟩
   obtain ⟨b1, off1, e1, c0, c1, c2, c3⟩ := (Ha.out.1.keep hB).at k x hx
   dsimp only at e1
   subst e1
   have hs1 := Ha.out.2.1 x (List.mem_of_getElem? hx)
   have hix := ix_item b1 off1 n c k hlt
   have Hst := hide (drop_at l k x hx)
   have HxR := hide (HR.out x (List.mem_of_getElem? hx))
   clear hx
   obtain ⟨xk, xa, xt, xd⟩ := x
   dsimp only at c0 c1 c2 c3 hs1
   have hB2 := hB.alloc hB.size (.cells #[.int .u8 xk, .int .i64 xa, .string xt, .int .i64 xd] 36)
   go_wp2_with fail
   refine (number_any xk xa xd xt _ (He.out.keep hB2) hs1).mono ?_
   rintro e w1 ⟨rfl, hb1⟩
   have hB3 := chain0 hB2 hb1
   have HnR := hide (nV_R (x := ⟨xk, xa, xt, xd⟩) HxR.out)
   clear hb1 c0 c1 c2 c3 hB2 hB hix
   rw [Hst.out] at Hk
   have Hk2 : Hid ((if nE ⟨xk, xa, xt, xd⟩ = 0 then (if decide (k = 0) = true then numF opLeast false (nV ⟨xk, xa, xt, xd⟩) (l.drop (k + 1)) else if (opLeast acc (nV ⟨xk, xa, xt, xd⟩)).2 = true then numF opLeast false (opLeast acc (nV ⟨xk, xa, xt, xd⟩)).1 (l.drop (k + 1)) else (0, 251)) else (0, nE ⟨xk, xa, xt, xd⟩)) = numF opLeast true 0 l) := Hk.out
   clear Hk Hst
   generalize nV ⟨xk, xa, xt, xd⟩ = nv at *
   generalize nE ⟨xk, xa, xt, xd⟩ = ne at *
   by_cases hz : ne = 0
   ·subst hz
    by_cases hk0 : k = 0
    ·subst hk0
     have Hk3 : Hid (numF opLeast (decide (0 + 1 = 0)) nv (l.drop (0 + 1)) = numF opLeast true 0 l) := Hk2.out
     clear Hk2
     go_wp2
     go_roundw
     case rel => exact ⟨nv, 1, by omega, rfl, by simp, Hk3, HnR.out, hB3⟩
     case measure => simp [intOf]; omega
    ·have hk1 : (0 : Int) < (k : Int) := by omega
     have hk2 : 0 < k := by omega
     go_wp2_with fail
     refine (least_any acc nv _).mono ?_
     rintro e w2 ⟨rfl, rfl⟩
     have Hk3 : Hid (numF opLeast (decide (k + 1 = 0)) (opLeast acc nv).1 (l.drop (k + 1)) = numF opLeast true 0 l) := by show _ = _; rw [← Hk2.out, if_pos trivial, if_neg (by simpa using hk0), if_pos (c := (opLeast acc nv).2 = true) rfl]; rfl
     have HmR : Hid (R64 (opLeast acc nv).1) := min_R HA.out HnR.out
     have hb0 : (opLeast acc nv).2 = true := rfl
     rw [hb0]
     generalize (opLeast acc nv).1 = r1 at *
     clear Hk2 hk0 hb0
     go_wp2
     go_roundw
     case rel => exact ⟨r1, k + 1, by omega, rfl, by simp, Hk3, HmR.out, hB3⟩
     case measure => simp [intOf]; omega
   ·have hz1 : (ne != 0) = true := by simpa using hz
    have HX : Hid (numR opLeast l = ([], ne)) := numR_bad (v := 0) (by rw [← Hk2.out]; exact if_neg hz) hz
    clear Hk2 hz
    go_wp2
    go_ret2
    exact ⟨.slice none 0 0, by rw [HX.out]; rfl, by rw [HX.out]; exact OwI.nil _ _, hB3⟩
  ·have hI : ¬ (k : Int) < (n : Int) := by omega
   have HX : Hid (numR opLeast l = ([⟨2, acc, ⟨#[]⟩, 0⟩], 0)) := numR_ok (by rw [← Hk.out, List.drop_eq_nil_of_le (by have := Hn.out; omega)]; rfl)
   clear Hk
   go_wp2_with fail
   refine (vwhole_own acc _).mono ?_
   rintro e w2 ⟨v, rfl, ho, hb2⟩
   have Ho := hide (ho.mono hB.size)
   have hB3 := chain0 hB hb2
   clear ho hb2
   go_wp2
   go_ret2
   exact ⟨v, by rw [HX.out]; rfl, by rw [HX.out]; exact Ho.out, hB3⟩
theorem numbers_most (p : Option Addr) (n c : Nat) (l : List It) (w : World) (he : Env w) (ha : OkA w ⟨p, l, c⟩) (hR : ∀ y ∈ l, R64 y.num) (hn : n = l.length) :
  Calls Tryz.prog 59 #[.slice p n c, .func (.func 62) #[] #[]] w (Res w (numR opMost l).1 (numR opMost l).2) := by
 have Ha := hide ha
 have He := hide he
 have Hn := hide hn
 have HR := hide hR
 have hnl : n < 9223372036854775807 := by rw [hn]; exact ha.2.2
 clear ha he hn hR
 go_enter Tryz.func59, Tryz.ntmps59
 go_wp2_with fail
 go_loopw [6, 14] (fun v iv W => ∃ (acc : Int) (k : Nat), k ≤ n ∧ v = .int .i64 acc ∧ iv = .int .i64 k ∧ Hid (numF opMost (decide (k = 0)) acc (l.drop k) = numF opMost true 0 l) ∧ R64 acc ∧ Below w.heap.size w W) (fun _ iv _ => n - (intOf iv).toNat)
 case atStart => exact ⟨0, 0, Nat.zero_le _, rfl, rfl, hide rfl, by unfold R64; decide, Below.refl _ _⟩
 case round =>
  obtain ⟨acc, k, hk, rfl, rfl, Hk, hA, hB⟩ := hrel
  have HA := hide hA
  clear hA
  by_cases hlt : k < n
  ·have hI : (k : Int) < (n : Int) := by omega
   obtain ⟨x, hx⟩ : ∃ x, l[k]? = some x := ⟨_, List.getElem?_eq_getElem (by have := Hn.out; omega)⟩
   obtain ⟨b1, off1, e1, c0, c1, c2, c3⟩ := (Ha.out.1.keep hB).at k x hx
   dsimp only at e1
   subst e1
   have hs1 := Ha.out.2.1 x (List.mem_of_getElem? hx)
   have hix := ix_item b1 off1 n c k hlt
   have Hst := hide (drop_at l k x hx)
   have HxR := hide (HR.out x (List.mem_of_getElem? hx))
   clear hx
   obtain ⟨xk, xa, xt, xd⟩ := x
   dsimp only at c0 c1 c2 c3 hs1
   have hB2 := hB.alloc hB.size (.cells #[.int .u8 xk, .int .i64 xa, .string xt, .int .i64 xd] 36)
   go_wp2_with fail
   refine (number_any xk xa xd xt _ (He.out.keep hB2) hs1).mono ?_
   rintro e w1 ⟨rfl, hb1⟩
   have hB3 := chain0 hB2 hb1
   have HnR := hide (nV_R (x := ⟨xk, xa, xt, xd⟩) HxR.out)
   clear hb1 c0 c1 c2 c3 hB2 hB hix
   rw [Hst.out] at Hk
   have Hk2 : Hid ((if nE ⟨xk, xa, xt, xd⟩ = 0 then (if decide (k = 0) = true then numF opMost false (nV ⟨xk, xa, xt, xd⟩) (l.drop (k + 1)) else if (opMost acc (nV ⟨xk, xa, xt, xd⟩)).2 = true then numF opMost false (opMost acc (nV ⟨xk, xa, xt, xd⟩)).1 (l.drop (k + 1)) else (0, 251)) else (0, nE ⟨xk, xa, xt, xd⟩)) = numF opMost true 0 l) := Hk.out
   clear Hk Hst
   generalize nV ⟨xk, xa, xt, xd⟩ = nv at *
   generalize nE ⟨xk, xa, xt, xd⟩ = ne at *
   by_cases hz : ne = 0
   ·subst hz
    by_cases hk0 : k = 0
    ·subst hk0
     have Hk3 : Hid (numF opMost (decide (0 + 1 = 0)) nv (l.drop (0 + 1)) = numF opMost true 0 l) := Hk2.out
     clear Hk2
     go_wp2
     go_roundw
     case rel => exact ⟨nv, 1, by omega, rfl, by simp, Hk3, HnR.out, hB3⟩
     case measure => simp [intOf]; omega
    ·have hk1 : (0 : Int) < (k : Int) := by omega
     have hk2 : 0 < k := by omega
     go_wp2_with fail
     refine (most_any acc nv _).mono ?_
     rintro e w2 ⟨rfl, rfl⟩
     have Hk3 : Hid (numF opMost (decide (k + 1 = 0)) (opMost acc nv).1 (l.drop (k + 1)) = numF opMost true 0 l) := by show _ = _; rw [← Hk2.out, if_pos trivial, if_neg (by simpa using hk0), if_pos (c := (opMost acc nv).2 = true) rfl]; rfl
     have HmR : Hid (R64 (opMost acc nv).1) := max_R HA.out HnR.out
     have hb0 : (opMost acc nv).2 = true := rfl
     rw [hb0]
     generalize (opMost acc nv).1 = r1 at *
     clear Hk2 hk0 hb0
     go_wp2
     go_roundw
     case rel => exact ⟨r1, k + 1, by omega, rfl, by simp, Hk3, HmR.out, hB3⟩
     case measure => simp [intOf]; omega
   ·have hz1 : (ne != 0) = true := by simpa using hz
    have HX : Hid (numR opMost l = ([], ne)) := numR_bad (v := 0) (by rw [← Hk2.out]; exact if_neg hz) hz
    clear Hk2 hz
    go_wp2
    go_ret2
    exact ⟨.slice none 0 0, by rw [HX.out]; rfl, by rw [HX.out]; exact OwI.nil _ _, hB3⟩
  ·have hI : ¬ (k : Int) < (n : Int) := by omega
   have HX : Hid (numR opMost l = ([⟨2, acc, ⟨#[]⟩, 0⟩], 0)) := numR_ok (by rw [← Hk.out, List.drop_eq_nil_of_le (by have := Hn.out; omega)]; rfl)
   clear Hk
   go_wp2_with fail
   refine (vwhole_own acc _).mono ?_
   rintro e w2 ⟨v, rfl, ho, hb2⟩
   have Ho := hide (ho.mono hB.size)
   have hB3 := chain0 hB hb2
   clear ho hb2
   go_wp2
   go_ret2
   exact ⟨v, by rw [HX.out]; rfl, by rw [HX.out]; exact Ho.out, hB3⟩
end Go.Proofs.YtaieiogmolaebaaGreatDoor
namespace Go.Proofs.YtaieiogmolaebaaGreatDoor
set_option maxRecDepth 100000
set_option maxHeartbeats 4000000
open Go.RowKit
def fSum (l : List It) : List It × Int := numR opPlus l
def fMin (l : List It) : List It × Int := if l = [] then ([], 0) else numR opLeast l
def fMax (l : List It) : List It × Int := if l = [] then ([], 0) else numR opMost l
theorem ofNumbers_sum (p : Option Addr) (n c : Nat) (l : List It) (w : World) (he : Env w) (ha : OkA w ⟨p, l, c⟩) (hR : ∀ y ∈ l, R64 y.num) (hn : n = l.length) :
  Calls Tryz.prog 24 #[.string ⟨#[115, 117, 109]⟩, .slice p n c] w fun e w' => ∃ v, e = .returned (.tuple #[v, .int .i64 (fSum l).2, .bool true]) ∧ OwI w' w.heap.size v (fSum l).1 ∧ Below w.heap.size w w' := by
 have H := hide (numbers_plus p n c l w he ha hR hn)
 show Calls _ _ _ _ fun e w' => ∃ v, e = .returned (.tuple #[v, .int .i64 (numR opPlus l).2, .bool true]) ∧ OwI w' w.heap.size v (numR opPlus l).1 ∧ Below w.heap.size w w'
 generalize numR opPlus l = sv at *
 obtain ⟨s1, s2⟩ := sv
 dsimp only at H ⊢
 clear he ha hR hn
 go_enter Tryz.func24, Tryz.ntmps24
 go_wp2_with fail
 refine H.out.mono ?_
 rintro e w1 ⟨v, rfl, ho, hb⟩
 have Ho := hide ho
 clear ho
 go_wp2
 go_ret3
 exact ⟨v, rfl, Ho.out, hb⟩
theorem ofNumbers_min (p : Option Addr) (n c : Nat) (l : List It) (w : World) (he : Env w) (ha : OkA w ⟨p, l, c⟩) (hR : ∀ y ∈ l, R64 y.num) (hn : n = l.length) :
  Calls Tryz.prog 24 #[.string ⟨#[109, 105, 110]⟩, .slice p n c] w fun e w' => ∃ v, e = .returned (.tuple #[v, .int .i64 (fMin l).2, .bool true]) ∧ OwI w' w.heap.size v (fMin l).1 ∧ Below w.heap.size w w' := by
 by_cases h0 : l = []
 ·subst h0
  have hn0 : n = 0 := hn
  subst hn0
  clear he ha hR hn
  go_enter Tryz.func24, Tryz.ntmps24
  go_wp2
  go_ret3
  exact ⟨.slice none 0 0, rfl, OwI.nil _ _, Below.refl _ _⟩
 ·have H := hide (numbers_least p n c l w he ha hR hn)
  have hF : fMin l = numR opLeast l := by unfold fMin; rw [if_neg h0]
  rw [hF]
  have hn1 : (0 : Int) < (n : Int) := by
   have : l.length ≠ 0 := fun e => h0 (List.length_eq_zero_iff.1 e)
   omega
  have hn2 : 0 < n := by omega
  generalize numR opLeast l = sv at *
  obtain ⟨s1, s2⟩ := sv
  dsimp only at H ⊢
  clear he ha hR hn h0 hF
  go_enter Tryz.func24, Tryz.ntmps24
  go_wp2_with fail
  refine H.out.mono ?_
  rintro e w1 ⟨v, rfl, ho, hb⟩
  have Ho := hide ho
  clear ho
  go_wp2
  go_ret3
  exact ⟨v, rfl, Ho.out, hb⟩
theorem ofNumbers_max (p : Option Addr) (n c : Nat) (l : List It) (w : World) (he : Env w) (ha : OkA w ⟨p, l, c⟩) (hR : ∀ y ∈ l, R64 y.num) (hn : n = l.length) :
  Calls Tryz.prog 24 #[.string ⟨#[109, 97, 120]⟩, .slice p n c] w fun e w' => ∃ v, e = .returned (.tuple #[v, .int .i64 (fMax l).2, .bool true]) ∧ OwI w' w.heap.size v (fMax l).1 ∧ Below w.heap.size w w' := by
 by_cases h0 : l = []
 ·subst h0
  have hn0 : n = 0 := hn
  subst hn0
  clear he ha hR hn
  go_enter Tryz.func24, Tryz.ntmps24
  go_wp2
  go_ret3
  exact ⟨.slice none 0 0, rfl, OwI.nil _ _, Below.refl _ _⟩
 ·have H := hide (numbers_most p n c l w he ha hR hn)
  have hF : fMax l = numR opMost l := by unfold fMax; rw [if_neg h0]
  rw [hF]
  have hn1 : (0 : Int) < (n : Int) := by
   have : l.length ≠ 0 := fun e => h0 (List.length_eq_zero_iff.1 e)
   omega
  have hn2 : 0 < n := by omega
  generalize numR opMost l = sv at *
  obtain ⟨s1, s2⟩ := sv
  dsimp only at H ⊢
  clear he ha hR hn h0 hF
  go_enter Tryz.func24, Tryz.ntmps24
  go_wp2_with fail
  refine H.out.mono ?_
  rintro e w1 ⟨v, rfl, ho, hb⟩
  have Ho := hide ho
  clear ho
  go_wp2
  go_ret3
  exact ⟨v, rfl, Ho.out, hb⟩
end Go.Proofs.YtaieiogmolaebaaGreatDoor
namespace Go.Proofs.YtaieiogmolaebaaGreatDoor
set_option maxRecDepth 100000
set_option maxHeartbeats 4000000
open Go.RowKit
theorem nE_no {x : It} (h : nE x ≠ 0) : nV x = 0 := by
 unfold nE at h
 unfold nV
 split at h
 ·exact absurd rfl h
 ·rename_i h2
  rw [if_neg h2]
  split at h
  ·exact absurd rfl h
  ·rename_i h3; exact whN_no (by simpa using h3)
theorem oneV_no {l : List It} (h : (oneV l).2 ≠ 0) : (oneV l).1 = 0 := by
 match l, h with
 | [], _ => rfl
 | [x], h => exact nE_no h
 | _ :: _ :: _, _ => rfl
def fAbs (l : List It) : List It × Int := if l = [] then ([], 0) else if (oneV l).2 = 0 then (if (oneV l).1 = -9223372036854775808 then ([], 251) else ([⟨2, if (oneV l).1 < 0 then -(oneV l).1 else (oneV l).1, ⟨#[]⟩, 0⟩], 0)) else ([], (oneV l).2)
theorem ofNumbers_abs (p : Option Addr) (n c : Nat) (l : List It) (w : World) (he : Env w) (ha : OkA w ⟨p, l, c⟩) (hR : ∀ y ∈ l, R64 y.num) (hn : n = l.length) :
  Calls Tryz.prog 24 #[.string ⟨#[97, 98, 115]⟩, .slice p n c] w fun e w' => ∃ v, e = .returned (.tuple #[v, .int .i64 (fAbs l).2, .bool true]) ∧ OwI w' w.heap.size v (fAbs l).1 ∧ Below w.heap.size w w' := by
 by_cases h0 : l = []
 ·subst h0
  have hn0 : n = 0 := hn
  subst hn0
  clear he ha hR hn
  go_enter Tryz.func24, Tryz.ntmps24
  go_wp2
  go_ret3
  exact ⟨.slice none 0 0, rfl, OwI.nil _ _, Below.refl _ _⟩
 ·have H := hide (one_any p n c l w he ha hn)
  have hvR := oneV_R hR
  have hno := oneV_no (l := l)
  have hn0 : l.length ≠ 0 := fun e => h0 (List.length_eq_zero_iff.1 e)
  have hn1 : ((n : Int) == 0) = false := by simpa using (show (n : Int) ≠ 0 by omega)
  have hn2 : (n == 0) = false := by simpa using (show n ≠ 0 by omega)
  have hF : fAbs l = if (oneV l).2 = 0 then (if (oneV l).1 = -9223372036854775808 then ([], 251) else ([⟨2, if (oneV l).1 < 0 then -(oneV l).1 else (oneV l).1, ⟨#[]⟩, 0⟩], 0)) else ([], (oneV l).2) := by unfold fAbs; rw [if_neg h0]
  generalize fAbs l = fl at *
  generalize oneV l = ov at *
  obtain ⟨nv, ne⟩ := ov
  dsimp only at H hvR hno hF
  have HvR := hide hvR
  clear he ha hR hn h0 hn0 hvR
  by_cases hz : ne = 0
  ·subst hz
   rw [if_pos rfl] at hF
   by_cases hm : nv = -9223372036854775808
   ·have HF : Hid (fl = ([], 251)) := by show _ = _; rw [hF, if_pos hm]
    subst hm
    have hw : wrap64 9223372036854775808 = -9223372036854775808 := by unfold wrap64; omega
    clear hF hno
    go_enter Tryz.func24, Tryz.ntmps24
    go_wp2_with fail
    refine H.out.mono ?_
    rintro e w1 ⟨rfl, hb1⟩
    go_wp2
    go_ret3
    exact ⟨.slice none 0 0, by rw [HF.out]; rfl, by rw [HF.out]; exact OwI.nil _ _, hb1⟩
   ·rw [if_neg hm] at hF
    by_cases hneg : nv < 0
    ·obtain ⟨k, hk⟩ : ∃ k : Int, k = -nv := ⟨_, rfl⟩
     have HF : Hid (fl = ([⟨2, k, ⟨#[]⟩, 0⟩], 0)) := by show _ = _; rw [hF, if_pos hneg, hk]
     have hw : wrap64 (-nv) = k := by have := HvR.out; unfold R64 at this; unfold wrap64; omega
     have hk0 : ¬ k < 0 := by omega
     have hk1 : decide (k < 0) = false := decide_eq_false hk0
     have hw2 : -nv = k := hk.symm
     have hk2 : -9223372036854775808 ≤ k ∧ k ≤ 9223372036854775807 := by have := HvR.out; unfold R64 at this; omega
     clear hF hno hm hk
     go_enter Tryz.func24, Tryz.ntmps24
     go_wp2_with fail
     refine H.out.mono ?_
     rintro e w1 ⟨rfl, hb1⟩
     go_wp2_with fail
     refine (vwhole_own k _).mono ?_
     rintro e w2 ⟨v, rfl, ho, hb2⟩
     have Ho := hide (ho.mono hb1.size)
     have hB2 := chain0 hb1 hb2
     clear ho hb2
     go_wp2
     go_ret3
     exact ⟨v, by rw [HF.out]; rfl, by rw [HF.out]; exact Ho.out, hB2⟩
    ·have HF : Hid (fl = ([⟨2, nv, ⟨#[]⟩, 0⟩], 0)) := by show _ = _; rw [hF, if_neg hneg]
     have hneg1 : decide (nv < 0) = false := decide_eq_false hneg
     clear hF hno hm
     go_enter Tryz.func24, Tryz.ntmps24
     go_wp2_with fail
     refine H.out.mono ?_
     rintro e w1 ⟨rfl, hb1⟩
     go_wp2_with fail
     refine (vwhole_own nv _).mono ?_
     rintro e w2 ⟨v, rfl, ho, hb2⟩
     have Ho := hide (ho.mono hb1.size)
     have hB2 := chain0 hb1 hb2
     clear ho hb2
     go_wp2
     go_ret3
     exact ⟨v, by rw [HF.out]; rfl, by rw [HF.out]; exact Ho.out, hB2⟩
  ·have HF : Hid (fl = ([], ne)) := by show _ = _; rw [hF, if_neg hz]
   have hnv := hno hz
   subst hnv
   have hz1 : (ne != 0) = true := by simpa using hz
   have hz2 : (ne == 0) = false := by simpa using hz
   clear hF hno
   go_enter Tryz.func24, Tryz.ntmps24
   go_wp2_with fail
   refine H.out.mono ?_
   rintro e w1 ⟨rfl, hb1⟩
   go_wp2
   go_ret3
   exact ⟨.slice none 0 0, by rw [HF.out]; rfl, by rw [HF.out]; exact OwI.nil _ _, hb1⟩
def fNumber : List It → List It × Int
 | [] => ([], 0)
 | [x] => if x.kind = 4 then ([⟨2, x.num, ⟨#[]⟩, 0⟩], 0) else if nE x = 0 then ([⟨2, nV x, ⟨#[]⟩, 0⟩], 0) else ([], nE x)
 | _ :: _ :: _ => ([], 253)
theorem ofNumbers_number (p : Option Addr) (n c : Nat) (l : List It) (w : World) (he : Env w) (ha : OkA w ⟨p, l, c⟩) (hn : n = l.length) :
  Calls Tryz.prog 24 #[.string ⟨#[110, 117, 109, 98, 101, 114]⟩, .slice p n c] w fun e w' => ∃ v, e = .returned (.tuple #[v, .int .i64 (fNumber l).2, .bool true]) ∧ OwI w' w.heap.size v (fNumber l).1 ∧ Below w.heap.size w w' := by
 have H := hide (one_any p n c l w he ha hn)
 have Ha := hide ha
 clear he ha
 match l with
 | [] =>
  have hn0 : n = 0 := hn
  subst hn0
  clear hn H
  go_enter Tryz.func24, Tryz.ntmps24
  go_wp2
  go_ret3
  exact ⟨.slice none 0 0, rfl, OwI.nil _ _, Below.refl _ _⟩
 | [x] =>
  have hn0 : n = 1 := hn
  subst hn0
  clear hn
  have HO : Hid (oneV [x] = (nV x, nE x)) := by show _ = _; rfl
  rw [HO.out] at H
  obtain ⟨b, off, hp, _⟩ := at0 Ha.out.1
  dsimp only at hp
  subst hp
  have hix := ix_at0 b off 1 c (by omega)
  have Hc : Hid (∀ W, Below w.heap.size w W → W.cell? ⟨b, off, none⟩ = some (.int .u8 x.kind) ∧ W.cell? ⟨b, off + 1, none⟩ = some (.int .i64 x.num)) := by
   show ∀ W, _
   intro W hW
   obtain ⟨b2, off2, e2, c0, c1, _, _⟩ := at0 (Ha.out.1.keep hW)
   injection e2 with e2
   injection e2 with e2 e3
   subst e2 e3
   exact ⟨c0, c1⟩
  obtain ⟨xk, xa, xt, xd⟩ := x
  dsimp only at Hc
  clear HO
  by_cases hk : xk = 4
  ·have HF : Hid (fNumber [⟨xk, xa, xt, xd⟩] = ([⟨2, xa, ⟨#[]⟩, 0⟩], 0)) := by show _ = _; unfold fNumber; exact if_pos hk
   subst hk
   generalize nV ⟨4, xa, xt, xd⟩ = nv at *
   generalize nE ⟨4, xa, xt, xd⟩ = ne at *
   dsimp only at H
   go_enter Tryz.func24, Tryz.ntmps24
   go_wp2_with fail
   refine H.out.mono ?_
   rintro e w1 ⟨rfl, hb1⟩
   obtain ⟨c0, c1⟩ := Hc.out w1 hb1
   go_wp2_with fail
   refine (vwhole_own xa _).mono ?_
   rintro e w2 ⟨v, rfl, ho, hb2⟩
   have Ho := hide (ho.mono hb1.size)
   have hB2 := chain0 hb1 hb2
   clear ho hb2
   go_wp2
   go_ret3
   exact ⟨v, by rw [HF.out]; rfl, by rw [HF.out]; exact Ho.out, hB2⟩
  ·have hk1 : ((xk : Int) == 4) = false := by simpa using (show (xk : Int) ≠ 4 by omega)
   by_cases hz : nE ⟨xk, xa, xt, xd⟩ = 0
   ·have HF : Hid (fNumber [⟨xk, xa, xt, xd⟩] = ([⟨2, nV ⟨xk, xa, xt, xd⟩, ⟨#[]⟩, 0⟩], 0)) := by show _ = _; exact (if_neg hk).trans (if_pos hz)
    rw [hz] at H
    generalize nV ⟨xk, xa, xt, xd⟩ = nv at *
    dsimp only at H
    clear hz hk
    go_enter Tryz.func24, Tryz.ntmps24
    go_wp2_with fail
    refine H.out.mono ?_
    rintro e w1 ⟨rfl, hb1⟩
    obtain ⟨c0, c1⟩ := Hc.out w1 hb1
    go_wp2_with fail
    refine (vwhole_own nv _).mono ?_
    rintro e w2 ⟨v, rfl, ho, hb2⟩
    have Ho := hide (ho.mono hb1.size)
    have hB2 := chain0 hb1 hb2
    clear ho hb2
    go_wp2
    go_ret3
    exact ⟨v, by rw [HF.out]; rfl, by rw [HF.out]; exact Ho.out, hB2⟩
   ·have HF : Hid (fNumber [⟨xk, xa, xt, xd⟩] = ([], nE ⟨xk, xa, xt, xd⟩)) := by show _ = _; exact (if_neg hk).trans (if_neg hz)
    have hz1 : (nE ⟨xk, xa, xt, xd⟩ == 0) = false := by simpa using hz
    generalize nV ⟨xk, xa, xt, xd⟩ = nv at *
    generalize nE ⟨xk, xa, xt, xd⟩ = ne at *
    dsimp only at H
    clear hz hk
    go_enter Tryz.func24, Tryz.ntmps24
    go_wp2_with fail
    refine H.out.mono ?_
    rintro e w1 ⟨rfl, hb1⟩
    obtain ⟨c0, c1⟩ := Hc.out w1 hb1
    go_wp2
    go_ret3
    exact ⟨.slice none 0 0, by rw [HF.out]; rfl, by rw [HF.out]; exact OwI.nil _ _, hb1⟩
 | x :: y :: r =>
  have HF : Hid (fNumber (x :: y :: r) = ([], 253)) := by show _ = _; rfl
  have HO : oneV (x :: y :: r) = (0, 253) := rfl
  rw [HO] at H
  obtain ⟨m, hm⟩ : ∃ m, m = r.length := ⟨_, rfl⟩
  have hn0 : n = m + 2 := by rw [hn, hm]; rfl
  have g1 : ((n : Int) == 0) = false := by simpa using (show (n : Int) ≠ 0 by omega)
  have g2 : ((n : Int) == 1) = false := by simpa using (show (n : Int) ≠ 1 by omega)
  have g3 : (n == 0) = false := by simpa using (show n ≠ 0 by omega)
  have g4 : (n == 1) = false := by simpa using (show n ≠ 1 by omega)
  dsimp only at H
  clear hn hn0 hm HO
  go_enter Tryz.func24, Tryz.ntmps24
  go_wp2_with fail
  refine H.out.mono ?_
  rintro e w1 ⟨rfl, hb1⟩
  go_wp2
  go_ret3
  exact ⟨.slice none 0 0, by rw [HF.out]; rfl, by rw [HF.out]; exact OwI.nil _ _, hb1⟩
end Go.Proofs.YtaieiogmolaebaaGreatDoor
