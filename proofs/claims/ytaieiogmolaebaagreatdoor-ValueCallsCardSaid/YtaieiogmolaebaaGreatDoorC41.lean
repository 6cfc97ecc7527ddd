/- The reference: Blank, spaced, stands. The reference: stands, joined, join. The reference: joined, join, distinct. -/
import Derived.Test.YtaieiogmolaebaaGreatDoorC34
import Derived.Test.YtaieiogmolaebaaGreatDoorC35
import Derived.Test.YtaieiogmolaebaaGreatDoorC27
namespace Go.Proofs.YtaieiogmolaebaaGreatDoor
set_option maxRecDepth 100000
set_option maxHeartbeats 4000000
open Go.RowKit
theorem rblank_any (s : ByteArray) (z : Nat) (q : Bool) (w : World) (h1 : s.size = 1) (hz : bt s 0 = (z : Int)) (hq : q = (z == 32 || z == 9 || z == 10 || z == 13)) : Calls Tryz.prog 129 #[.string s] w fun e w' => e = .returned (.bool q) ∧ w = w' := by
 have hrx := run_sx s 0 (by omega) 0 rfl
 rw [hz] at hrx
 have hI0 : (0 : Int) < (s.size : Int) := by omega
 have hI1 : ¬ (1 : Int) < (s.size : Int) := by omega
 clear hz h1
 by_cases c9 : z = 9
 ·subst c9
  have hq2 : q = true := by rw [hq]; rfl
  clear hq
  subst hq2
  go_enter Tryz.func129, Tryz.ntmps129
  go_wp2_with fail
  go_loopw [3] (fun iv W => ∃ k : Nat, k ≤ 1 ∧ iv = .int .i64 k ∧ w = W) (fun iv _ => 1 - (intOf iv).toNat)
  case atStart => exact ⟨0, by omega, rfl, rfl⟩
  case round =>
   obtain ⟨k, hk, rfl, rfl⟩ := hrel
   match k, hk with
   | 0, _ =>
    go_wp2
    go_roundw
    case rel => exact ⟨1, by omega, rfl, by trivial⟩
    case measure => simp [intOf]
   | 1, _ =>
    go_wp2
    go_ret
    exact ⟨rfl, rfl⟩
 by_cases c10 : z = 10
 ·subst c10
  have hq2 : q = true := by rw [hq]; rfl
  clear hq
  subst hq2
  go_enter Tryz.func129, Tryz.ntmps129
  go_wp2_with fail
  go_loopw [3] (fun iv W => ∃ k : Nat, k ≤ 1 ∧ iv = .int .i64 k ∧ w = W) (fun iv _ => 1 - (intOf iv).toNat)
  case atStart => exact ⟨0, by omega, rfl, rfl⟩
  case round =>
   obtain ⟨k, hk, rfl, rfl⟩ := hrel
   match k, hk with
   | 0, _ =>
    go_wp2
    go_roundw
    case rel => exact ⟨1, by omega, rfl, by trivial⟩
    case measure => simp [intOf]
   | 1, _ =>
    go_wp2
    go_ret
    exact ⟨rfl, rfl⟩
 by_cases c13 : z = 13
 ·subst c13
  have hq2 : q = true := by rw [hq]; rfl
  clear hq
  subst hq2
  go_enter Tryz.func129, Tryz.ntmps129
  go_wp2_with fail
  go_loopw [3] (fun iv W => ∃ k : Nat, k ≤ 1 ∧ iv = .int .i64 k ∧ w = W) (fun iv _ => 1 - (intOf iv).toNat)
  case atStart => exact ⟨0, by omega, rfl, rfl⟩
  case round =>
   obtain ⟨k, hk, rfl, rfl⟩ := hrel
   match k, hk with
   | 0, _ =>
    go_wp2
    go_roundw
    case rel => exact ⟨1, by omega, rfl, by trivial⟩
    case measure => simp [intOf]
   | 1, _ =>
    go_wp2
    go_ret
    exact ⟨rfl, rfl⟩
 have d9 : ((z : Int) != 9) = true := by simpa using (show ¬ (z : Int) = 9 by omega)
 have d10 : ((z : Int) != 10) = true := by simpa using (show ¬ (z : Int) = 10 by omega)
 have d13 : ((z : Int) != 13) = true := by simpa using (show ¬ (z : Int) = 13 by omega)
 have e9 : ¬ (z : Int) = 9 := by omega
 have e10 : ¬ (z : Int) = 10 := by omega
 have e13 : ¬ (z : Int) = 13 := by omega
 by_cases c32 : z = 32
 ·subst c32
  have hq2 : q = true := by rw [hq]; rfl
  clear hq
  subst hq2
  clear c9 c10 c13 d9 d10 d13 e9 e10 e13
  go_enter Tryz.func129, Tryz.ntmps129
  go_wp2_with fail
  go_loopw [3] (fun iv W => ∃ k : Nat, k ≤ 1 ∧ iv = .int .i64 k ∧ w = W) (fun iv _ => 1 - (intOf iv).toNat)
  case atStart => exact ⟨0, by omega, rfl, rfl⟩
  case round =>
   obtain ⟨k, hk, rfl, rfl⟩ := hrel
   match k, hk with
   | 0, _ =>
    go_wp2
    go_roundw
    case rel => exact ⟨1, by omega, rfl, by trivial⟩
    case measure => simp [intOf]
   | 1, _ =>
    go_wp2
    go_ret
    exact ⟨rfl, rfl⟩
 ·have hq2 : q = false := by rw [hq]; simp; omega
  clear hq
  subst hq2
  have d32 : ((z : Int) != 32) = true := by simpa using (show ¬ (z : Int) = 32 by omega)
  have e32 : ¬ (z : Int) = 32 := by omega
  clear c9 c10 c13 c32
  go_enter Tryz.func129, Tryz.ntmps129
  go_wp2_with fail
  go_loopw [3] (fun iv W => iv = .int .i64 0 ∧ w = W) (fun iv _ => 0)
  case atStart => exact ⟨rfl, rfl⟩
  case round =>
   obtain ⟨rfl, rfl⟩ := hrel
   go_wp2
   go_ret
   exact ⟨rfl, rfl⟩
theorem cut_one (s : ByteArray) (k : Nat) (h : k < s.size) : (s.extract k (k + 1)).size = 1 ∧ bt (s.extract k (k + 1)) 0 = bt s k := by
 have hsz : (s.extract k (k + 1)).size = 1 := by rw [ByteArray.size_extract]; omega
 refine ⟨hsz, ?_⟩
 unfold bt
 congr 2
 have h' : k < s.data.size := h
 rw [ByteArray.data_extract]
 rw [Array.getElem?_eq_getElem h', Array.getElem?_extract]
 simp
 rw [if_pos (by omega), Array.getElem?_eq_getElem h']
 rfl
theorem rspaced_any (s : ByteArray) (w : World) (hs : s.size ≤ 1000000) : Calls Tryz.prog 81 #[.string s] w fun e w' => e = .returned (.string (spaceB s)) ∧ Below w.heap.size w w' := by
 have HF : Hid (spaceB s = ⟨(spB [] false s.data.toList).toArray⟩) := by show _ = _; rfl
 go_enter Tryz.func81, Tryz.ntmps81
 go_wp2_with fail
 go_loopw [3, 4, 5] (fun ov gv iv W => ∃ (k : Nat) (out : List UInt8) (gap : Bool), k ≤ s.size ∧ iv = .int .i64 k ∧ gv = .bool gap ∧ OwB W w.heap.size ov out ∧ Hid (spB out gap (s.data.toList.drop k) = spB [] false s.data.toList) ∧ out.length ≤ 2 * k ∧ Below w.heap.size w W) (fun _ _ iv _ => s.size - (intOf iv).toNat)
 case atStart => exact ⟨0, [], false, Nat.zero_le _, rfl, rfl, OwB.nil _ _, hide (by rw [List.drop_zero]), Nat.le_refl _, Below.refl _ _⟩
 case round =>
  obtain ⟨k, out, gap, hk, rfl, rfl, ho, HT, hol, hB⟩ := hrel
  obtain ⟨av, cv, hv⟩ := ho.forms
  subst hv
  have Ho := hide ho
  clear ho
  obtain ⟨m, hm⟩ : ∃ m, m = out.length := ⟨_, rfl⟩
  rw [← hm] at Ho hol ⊢
  have Hm := hide hm
  have Hol := hide hol
  clear hm hol
  by_cases hlt : k < s.size
  ·have hI : (k : Int) < (s.size : Int) := by omega
   obtain ⟨b, hd, hbt⟩ := drop_by s k hlt
   obtain ⟨z, hz⟩ : ∃ z : Nat, z = b.toNat := ⟨_, rfl⟩
   have hrx := run_sx s k hlt k rfl
   rw [hbt, ← hz] at hrx
   have HT2 : Hid ((if isW b = true then spB out true (s.data.toList.drop (k + 1)) else spB (gapB out gap ++ [b]) false (s.data.toList.drop (k + 1))) = spB [] false s.data.toList) := by
    show _ = _
    rw [← HT.out, hd]
    rfl
   obtain ⟨ce1, ce2⟩ := cut_one s k hlt
   have hW : isW b = (z == 32 || z == 9 || z == 10 || z == 13) := by
    rw [hz]
    unfold isW
    have hb : ∀ n : Nat, n < 256 → (b == UInt8.ofNat n) = (b.toNat == n) := by
     intro n hn
     rw [Bool.eq_iff_iff, beq_iff_eq, beq_iff_eq]
     constructor
     ·intro h; rw [h, UInt8.toNat_ofNat']; omega
     ·intro h; rw [← h]; simp
    rw [← hb 32 (by decide), ← hb 9 (by decide), ← hb 10 (by decide), ← hb 13 (by decide)]
    rfl
   have Hbl := hide (rblank_any (s.extract k (k + 1)) z (isW b) wr ce1 (by rw [ce2, hbt, ← hz]) hW)
   have Hz : Hid ((z : Int) = (b.toNat : Int)) := by show _ = _; rw [hz]
   clear hd hbt HT hz ce1 ce2 hW
   rcases Bool.eq_false_or_eq_true (isW b) with hw | hw
   ·rw [hw] at Hbl
    rw [if_pos hw] at HT2
    clear hw
    go_wp2_with fail
    refine Hbl.out.mono ?_
    rintro e w1 ⟨rfl, rfl⟩
    go_wp2
    go_roundw
    case rel => exact ⟨k + 1, out, true, by omega, by simp, rfl, Ho.out, HT2, by have := Hm.out; have := Hol.out; omega, hB⟩
    case measure => simp [intOf]; omega
   ·rw [hw] at Hbl
    rw [if_neg (by rw [hw]; decide)] at HT2
    clear hw
    cases gap with
    | false =>
     have HT3 : Hid (spB (out ++ [b]) false (s.data.toList.drop (k + 1)) = spB [] false s.data.toList) := by show _ = _; rw [← HT2.out, gapB_false]
     clear HT2
     go_wp2_with fail
     refine Hbl.out.mono ?_
     rintro e w1 ⟨rfl, rfl⟩
     have hka := (Below.refl wr.heap.size wr).alloc (Nat.le_refl _) (.cells #[.int .u8 (z : Int)] 5)
     have HO2 := hide (OwB.keep Ho.out hka)
     have Hrd := hide (rd_one wr (z : Int) b Hz.out)
     have hbs := hB.size
     have hB0 := hB.alloc hB.size (.cells #[.int .u8 (z : Int)] 5)
     clear hka hB
     go_wp2_with (at_builtin; refine wpList_appB rfl _ _ rfl w.heap.size (.slice av m cv) out (some ⟨wr.heap.size, 0, none⟩) 1 1 [b] rfl rfl HO2.out Hrd.out rfl ?e3 ?e4 ?_)
     case e3 => have := Hm.out; have := Hol.out; simp; omega
     case e4 => first | exact hB0.size | omega
     intro v3 W3 own3 hg3 _
     have hB3 : Below w.heap.size w W3 := hB0.grown hg3 (by simp; omega) fun b hb => (OwB.lt Ho.out b hb).1
     have Hown3 := hide own3
     clear own3 hg3 HO2 Hrd hB0
     go_wp2
     go_roundw
     case rel => exact ⟨k + 1, out ++ [b], false, by omega, by simp, rfl, Hown3.out, HT3, by have := Hm.out; have := Hol.out; simp; omega, hB3⟩
     case measure => simp [intOf]; omega
    | true =>
     by_cases hm0 : m = 0
     ·have HT3 : Hid (spB (out ++ [b]) false (s.data.toList.drop (k + 1)) = spB [] false s.data.toList) := by
       show _ = _
       have : out = [] := List.length_eq_zero_iff.1 (by rw [← Hm.out]; exact hm0)
       rw [← HT2.out, this]; rfl
      clear HT2
      have hmz : ¬ (0 : Int) < (m : Int) := by omega
      have hmz2 : ¬ 0 < m := by omega
      clear hm0
      go_wp2_with fail
      refine Hbl.out.mono ?_
      rintro e w1 ⟨rfl, rfl⟩
      have hka := (Below.refl wr.heap.size wr).alloc (Nat.le_refl _) (.cells #[.int .u8 (z : Int)] 5)
      have HO2 := hide (OwB.keep Ho.out hka)
      have Hrd := hide (rd_one wr (z : Int) b Hz.out)
      have hbs := hB.size
      have hB0 := hB.alloc hB.size (.cells #[.int .u8 (z : Int)] 5)
      clear hka hB
      go_wp2_with (at_builtin; refine wpList_appB rfl _ _ rfl w.heap.size (.slice av m cv) out (some ⟨wr.heap.size, 0, none⟩) 1 1 [b] rfl rfl HO2.out Hrd.out rfl ?e3 ?e4 ?_)
      case e3 => have := Hm.out; have := Hol.out; simp; omega
      case e4 => first | exact hB0.size | omega
      intro v3 W3 own3 hg3 _
      have hB3 : Below w.heap.size w W3 := hB0.grown hg3 (by simp; omega) fun b hb => (OwB.lt Ho.out b hb).1
      have Hown3 := hide own3
      clear own3 hg3 HO2 Hrd hB0
      go_wp2
      go_roundw
      case rel => exact ⟨k + 1, out ++ [b], false, by omega, by simp, rfl, Hown3.out, HT3, by have := Hm.out; have := Hol.out; simp; omega, hB3⟩
      case measure => simp [intOf]; omega
     ·have HT3 : Hid (spB (out ++ [32, b]) false (s.data.toList.drop (k + 1)) = spB [] false s.data.toList) := by
       show _ = _
       have : out ≠ [] := fun e => hm0 (by rw [Hm.out, e]; rfl)
       rw [← HT2.out]
       unfold gapB
       rw [if_pos ⟨rfl, this⟩]
       simp
      clear HT2
      have hmp : 0 < m := by omega
      clear hm0
      go_wp2_with fail
      refine Hbl.out.mono ?_
      rintro e w1 ⟨rfl, rfl⟩
      have hka := (Below.refl wr.heap.size wr).alloc (Nat.le_refl _) (.cells #[.int .u8 32] 5)
      have HO2 := hide (OwB.keep Ho.out hka)
      have Hrd := hide (rd_one wr 32 (32 : UInt8) rfl)
      have hbs := hB.size
      have hB0 := hB.alloc hB.size (.cells #[.int .u8 32] 5)
      clear hka hB
      go_wp2_with (at_builtin; refine wpList_appB rfl _ _ rfl w.heap.size (.slice av m cv) out (some ⟨wr.heap.size, 0, none⟩) 1 1 [32] rfl rfl HO2.out Hrd.out rfl ?e3 ?e4 ?_)
      case e3 => have := Hm.out; have := Hol.out; simp; omega
      case e4 => first | exact hB0.size | omega
      intro v3 W3 own3 hg3 _
      have hB : Below w.heap.size w W3 := hB0.grown hg3 (by simp; omega) fun b hb => (OwB.lt Ho.out b hb).1
      have Ho0 := Ho
      clear Ho
      have Ho := hide own3
      obtain ⟨av2, cv2, hv2⟩ := own3.forms
      subst hv2
      obtain ⟨m2, hm2⟩ : ∃ m, m = (out ++ [32]).length := ⟨_, rfl⟩
      rw [← hm2] at Ho ⊢
      have hl2 : m2 = m + 1 := by rw [hm2, List.length_append, ← Hm.out]; rfl
      have Hm2 := hide hm2
      clear own3 hg3 HO2 Hrd hB0 Ho0 hm2
      have hka := (Below.refl W3.heap.size W3).alloc (Nat.le_refl _) (.cells #[.int .u8 (z : Int)] 5)
      have HO2 := hide (OwB.keep Ho.out hka)
      have Hrd := hide (rd_one W3 (z : Int) b Hz.out)
      have hB0 := hB.alloc hB.size (.cells #[.int .u8 (z : Int)] 5)
      have Hl2 := hide hl2
      clear hka hB hl2 hbs
      go_wp2_with (at_builtin; refine wpList_appB rfl _ _ rfl w.heap.size (.slice av2 m2 cv2) (out ++ [32]) (some ⟨W3.heap.size, 0, none⟩) 1 1 [b] rfl rfl HO2.out Hrd.out rfl ?e5 ?e6 ?_)
      case e5 => have := Hm.out; have := Hol.out; simp; omega
      case e6 => first | exact hB0.size | omega
      intro v3 W4 own3 hg3 _
      have hB3 : Below w.heap.size w W4 := hB0.grown hg3 hB0.size fun b hb => (OwB.lt Ho.out b hb).1
      have Hown3 := hide own3
      clear own3 hg3 HO2 Hrd hB0
      go_wp2
      go_roundw
      case rel => exact ⟨k + 1, out ++ [32, b], false, by omega, by simp, rfl, Hown3.out, HT3, by have := Hm.out; have := Hol.out; simp; omega, hB3⟩
      case measure => simp [intOf]; omega
  ·have hI : ¬ (k : Int) < (s.size : Int) := by omega
   have hx : out = spB [] false s.data.toList := by
    rw [← HT.out, List.drop_eq_nil_of_le (by rw [show s.data.toList.length = s.size from Array.length_toList]; omega)]
    rfl
   have hcv := (OwB.rd Ho.out).str m cv Hm.out
   have Hx := hide hx
   clear hx HT Ho
   go_wp2
   go_ret
   exact ⟨by rw [HF.out, ← Hx.out]; rfl, hB⟩
end Go.Proofs.YtaieiogmolaebaaGreatDoor
namespace Go.Proofs.YtaieiogmolaebaaGreatDoor
set_option maxRecDepth 100000
set_option maxHeartbeats 4000000
open Go.RowKit
theorem rstands_contains (s t : ByteArray) (w : World) (hs : s.size ≤ 140737488355328) (ht : t.size ≤ 140737488355328) : Calls Tryz.prog 83 #[.string ⟨#[99, 111, 110, 116, 97, 105, 110, 115]⟩, .string s, .string t] w fun e w' => e = .returned (.bool (Lib.contains s.data.toList t.data.toList)) ∧ w = w' := by
 obtain ⟨q, hq⟩ : ∃ q, q = Lib.contains s.data.toList t.data.toList := ⟨_, rfl⟩
 have Hq := hide hq
 rw [← hq]
 clear hq
 go_enter Tryz.func83, Tryz.ntmps83
 go_wp2_with fail
 go_loopw [7] (fun iv W => ∃ k : Nat, k ≤ s.size + 1 ∧ iv = .int .i64 k ∧ Hid (∀ j, j < k → j + t.size ≤ s.size → s.extract j (j + t.size) = t → ¬ (True)) ∧ w = W) (fun iv _ => s.size + 1 - (intOf iv).toNat)
 case atStart => exact ⟨0, Nat.zero_le _, rfl, hide (fun j hj => absurd hj (Nat.not_lt_zero _)), rfl⟩
 case round =>
  obtain ⟨k, hk, rfl, HF, rfl⟩ := hrel
  by_cases hlt : k + t.size ≤ s.size
  ·have hI : (k : Int) + (t.size : Int) ≤ (s.size : Int) := by omega
   have hks : k ≤ s.size := by omega
   by_cases he : s.extract k (k + t.size) = t
   ·have hE : (s.extract k (k + t.size)).toList = t.toList := by rw [he]
    have hq : q = true := by rw [Hq.out]; exact con_yes hlt he
    subst hq
    clear he HF Hq
    go_wp2
    go_ret
    exact ⟨rfl, rfl⟩
   ·have hE : ((s.extract k (k + t.size)).toList == t.toList) = false := by
     simp only [beq_eq_false_iff_ne, ne_eq, toList_inj]
     exact he
    have hE2 : ¬ (s.extract k (k + t.size)).toList = t.toList := by rw [toList_inj]; exact he
    have HF2 : Hid (∀ j, j < k + 1 → j + t.size ≤ s.size → s.extract j (j + t.size) = t → ¬ (True)) := by
     show ∀ j, _
     intro j hj h1 h2
     by_cases ej : j = k
     ·subst ej; exact absurd h2 he
     ·exact HF.out j (by omega) h1 h2
    clear he HF
    go_wp2
    go_roundw
    case rel => exact ⟨k + 1, by omega, by simp, HF2, by trivial⟩
    case measure => simp [intOf]; omega
  ·have hI : ¬ (k : Int) + (t.size : Int) ≤ (s.size : Int) := by omega
   have hq : q = false := by
    rw [Hq.out]
    exact con_no fun j hj h2 => HF.out j (by omega) hj h2 trivial
   subst hq
   clear HF Hq
   go_wp2
   go_ret
   exact ⟨rfl, rfl⟩
theorem rstands_starts (s t : ByteArray) (w : World) (hs : s.size ≤ 140737488355328) (ht : t.size ≤ 140737488355328) : Calls Tryz.prog 83 #[.string ⟨#[115, 116, 97, 114, 116, 115, 45, 119, 105, 116, 104]⟩, .string s, .string t] w fun e w' => e = .returned (.bool (Lib.hasPrefix s.data.toList t.data.toList)) ∧ w = w' := by
 obtain ⟨q, hq⟩ : ∃ q, q = Lib.hasPrefix s.data.toList t.data.toList := ⟨_, rfl⟩
 have Hq := hide hq
 rw [← hq]
 clear hq
 go_enter Tryz.func83, Tryz.ntmps83
 go_wp2_with fail
 go_loopw [7] (fun iv W => ∃ k : Nat, k ≤ s.size + 1 ∧ iv = .int .i64 k ∧ Hid (∀ j, j < k → j + t.size ≤ s.size → s.extract j (j + t.size) = t → ¬ (j = 0)) ∧ w = W) (fun iv _ => s.size + 1 - (intOf iv).toNat)
 case atStart => exact ⟨0, Nat.zero_le _, rfl, hide (fun j hj => absurd hj (Nat.not_lt_zero _)), rfl⟩
 case round =>
  obtain ⟨k, hk, rfl, HF, rfl⟩ := hrel
  by_cases hlt : k + t.size ≤ s.size
  ·have hI : (k : Int) + (t.size : Int) ≤ (s.size : Int) := by omega
   have hks : k ≤ s.size := by omega
   by_cases he : s.extract k (k + t.size) = t
   ·have hE : (s.extract k (k + t.size)).toList = t.toList := by rw [he]
    by_cases hk0 : k = 0
    ·subst hk0
     have hq : q = true := by rw [Hq.out]; exact pre_iff.2 ⟨by omega, by simpa using he⟩
     have hE3 : (s.extract 0 t.size).toList = t.toList := by simpa using hE
     subst hq
     clear he HF Hq
     go_wp2
     go_ret
     exact ⟨rfl, rfl⟩
    ·have hz : ((k : Int) == 0) = false := by simpa using (show ¬ (k : Int) = 0 by omega)
     have hz2 : ¬ (k : Int) = 0 := by omega
     have HF2 : Hid (∀ j, j < k + 1 → j + t.size ≤ s.size → s.extract j (j + t.size) = t → ¬ (j = 0)) := by
      show ∀ j, _
      intro j hj h1 h2
      by_cases ej : j = k
      ·subst ej; exact hk0
      ·exact HF.out j (by omega) h1 h2
     clear he HF hk0
     go_wp2
     go_roundw
     case rel => exact ⟨k + 1, by omega, by simp, HF2, by trivial⟩
     case measure => simp [intOf]; omega
   ·have hE : ((s.extract k (k + t.size)).toList == t.toList) = false := by
     simp only [beq_eq_false_iff_ne, ne_eq, toList_inj]
     exact he
    have hE2 : ¬ (s.extract k (k + t.size)).toList = t.toList := by rw [toList_inj]; exact he
    have HF2 : Hid (∀ j, j < k + 1 → j + t.size ≤ s.size → s.extract j (j + t.size) = t → ¬ (j = 0)) := by
     show ∀ j, _
     intro j hj h1 h2
     by_cases ej : j = k
     ·subst ej; exact absurd h2 he
     ·exact HF.out j (by omega) h1 h2
    clear he HF
    go_wp2
    go_roundw
    case rel => exact ⟨k + 1, by omega, by simp, HF2, by trivial⟩
    case measure => simp [intOf]; omega
  ·have hI : ¬ (k : Int) + (t.size : Int) ≤ (s.size : Int) := by omega
   have hq : q = false := by
    rw [Hq.out]
    rcases Bool.eq_false_or_eq_true (Lib.hasPrefix s.data.toList t.data.toList) with h2 | h2
    ·obtain ⟨h3, h4⟩ := pre_iff.1 h2
     have hk0 : 0 < k := by
      rcases Nat.eq_zero_or_pos k with h | h
      ·subst h; omega
      ·exact h
     exact absurd rfl (HF.out 0 hk0 (by omega) (by simpa using h4))
    ·exact h2
   subst hq
   clear HF Hq
   go_wp2
   go_ret
   exact ⟨rfl, rfl⟩
theorem rstands_ends (s t : ByteArray) (w : World) (hs : s.size ≤ 140737488355328) (ht : t.size ≤ 140737488355328) : Calls Tryz.prog 83 #[.string ⟨#[101, 110, 100, 115, 45, 119, 105, 116, 104]⟩, .string s, .string t] w fun e w' => e = .returned (.bool (Lib.hasSuffix s.data.toList t.data.toList)) ∧ w = w' := by
 obtain ⟨q, hq⟩ : ∃ q, q = Lib.hasSuffix s.data.toList t.data.toList := ⟨_, rfl⟩
 have Hq := hide hq
 rw [← hq]
 clear hq
 go_enter Tryz.func83, Tryz.ntmps83
 go_wp2_with fail
 go_loopw [7] (fun iv W => ∃ k : Nat, k ≤ s.size + 1 ∧ iv = .int .i64 k ∧ Hid (∀ j, j < k → j + t.size ≤ s.size → s.extract j (j + t.size) = t → ¬ (j + t.size = s.size)) ∧ w = W) (fun iv _ => s.size + 1 - (intOf iv).toNat)
 case atStart => exact ⟨0, Nat.zero_le _, rfl, hide (fun j hj => absurd hj (Nat.not_lt_zero _)), rfl⟩
 case round =>
  obtain ⟨k, hk, rfl, HF, rfl⟩ := hrel
  by_cases hlt : k + t.size ≤ s.size
  ·have hI : (k : Int) + (t.size : Int) ≤ (s.size : Int) := by omega
   have hks : k ≤ s.size := by omega
   by_cases he : s.extract k (k + t.size) = t
   ·have hE : (s.extract k (k + t.size)).toList = t.toList := by rw [he]
    by_cases hk0 : k + t.size = s.size
    ·have hq : q = true := by rw [Hq.out]; exact suf_iff.2 ⟨by omega, by rw [show s.size - t.size = k by omega]; exact he⟩
     have hz : (k : Int) + (t.size : Int) = (s.size : Int) := by omega
     have hE3 : (s.extract k s.size).toList = t.toList := by rw [← hk0]; exact hE
     subst hq
     clear he HF Hq hk0
     go_wp2
     go_ret
     exact ⟨rfl, rfl⟩
    ·have hz : ((k : Int) + (t.size : Int) == (s.size : Int)) = false := by simpa using (show ¬ (k : Int) + (t.size : Int) = (s.size : Int) by omega)
     have hz2 : ¬ (k : Int) + (t.size : Int) = (s.size : Int) := by omega
     have HF2 : Hid (∀ j, j < k + 1 → j + t.size ≤ s.size → s.extract j (j + t.size) = t → ¬ (j + t.size = s.size)) := by
      show ∀ j, _
      intro j hj h1 h2
      by_cases ej : j = k
      ·subst ej; exact hk0
      ·exact HF.out j (by omega) h1 h2
     clear he HF hk0
     go_wp2
     go_roundw
     case rel => exact ⟨k + 1, by omega, by simp, HF2, by trivial⟩
     case measure => simp [intOf]; omega
   ·have hE : ((s.extract k (k + t.size)).toList == t.toList) = false := by
     simp only [beq_eq_false_iff_ne, ne_eq, toList_inj]
     exact he
    have hE2 : ¬ (s.extract k (k + t.size)).toList = t.toList := by rw [toList_inj]; exact he
    have HF2 : Hid (∀ j, j < k + 1 → j + t.size ≤ s.size → s.extract j (j + t.size) = t → ¬ (j + t.size = s.size)) := by
     show ∀ j, _
     intro j hj h1 h2
     by_cases ej : j = k
     ·subst ej; exact absurd h2 he
     ·exact HF.out j (by omega) h1 h2
    clear he HF
    go_wp2
    go_roundw
    case rel => exact ⟨k + 1, by omega, by simp, HF2, by trivial⟩
    case measure => simp [intOf]; omega
  ·have hI : ¬ (k : Int) + (t.size : Int) ≤ (s.size : Int) := by omega
   have hq : q = false := by
    rw [Hq.out]
    rcases Bool.eq_false_or_eq_true (Lib.hasSuffix s.data.toList t.data.toList) with h2 | h2
    ·obtain ⟨h3, h4⟩ := suf_iff.1 h2
     exact absurd (by omega) (HF.out (s.size - t.size) (by omega) (by omega) h4)
    ·exact h2
   subst hq
   clear HF Hq
   go_wp2
   go_ret
   exact ⟨rfl, rfl⟩
end Go.Proofs.YtaieiogmolaebaaGreatDoor
namespace Go.Proofs.YtaieiogmolaebaaGreatDoor
open Go.RowKit
def jlen (sep : ByteArray) : Bool → List ByteArray → Nat
 | _, [] => 0
 | first, x :: r => (if first = true then 0 else sep.size) + x.size + jlen sep false r
def jby (sep : ByteArray) : Bool → List ByteArray → List UInt8
 | _, [] => []
 | first, x :: r => (if first = true then [] else sep.data.toList) ++ x.data.toList ++ jby sep false r
theorem jby_join (sep : ByteArray) : ∀ xs : List ByteArray, jby sep true xs = (joinB sep xs).data.toList
 | [] => rfl
 | [x] => by
  show [] ++ x.data.toList ++ [] = (List.intercalate sep.data.toList [x.data.toList]).toArray.toList
  simp [List.intercalate]
 | x :: y :: r => by
  have ih := jby_join sep (y :: r)
  have h1 : (joinB sep (x :: y :: r)).data.toList = x.data.toList ++ sep.data.toList ++ (joinB sep (y :: r)).data.toList := by
   show (List.intercalate sep.data.toList (x.data.toList :: y.data.toList :: r.map (·.data.toList))).toArray.toList = _ ++ (List.intercalate sep.data.toList (y.data.toList :: r.map (·.data.toList))).toArray.toList
   rw [List.intercalate_cons_cons, List.toList_toArray, List.toList_toArray]
  rw [h1, ← ih]
  simp [jby]
theorem jlen_jby (sep : ByteArray) : ∀ (xs : List ByteArray) (f : Bool), jlen sep f xs = (jby sep f xs).length
 | [], _ => rfl
 | x :: r, f => by
  have e1 : x.data.toList.length = x.size := Array.length_toList
  have e2 : sep.data.toList.length = sep.size := Array.length_toList
  unfold jlen jby
  rw [List.length_append, List.length_append, jlen_jby sep r false, e1]
  cases f <;> simp [e2]
theorem jlen_size (sep : ByteArray) (xs : List ByteArray) : jlen sep true xs = (joinB sep xs).size := by
 rw [jlen_jby, jby_join]; exact Array.length_toList
set_option maxRecDepth 100000 in
set_option maxHeartbeats 4000000 in
theorem rjoined_any (sep : ByteArray) (p : Option Addr) (n c : Nat) (xs : List ByteArray) (w : World) (hr : Rd w p (xs.map Value.string)) (hn : n = xs.length) (hnm : n ≤ 1000000) (hz : ∀ x ∈ xs, x.size ≤ 1000000) (hs : sep.size ≤ 1000000) :
  Calls Tryz.prog 77 #[.slice p n c, .string sep] w (Res w (joinR sep xs).1 (joinR sep xs).2) := by
 obtain ⟨J1, hJ1⟩ : ∃ x, x = (joinR sep xs).1 := ⟨_, rfl⟩
 obtain ⟨J2, hJ2⟩ : ∃ x, x = (joinR sep xs).2 := ⟨_, rfl⟩
 rw [← hJ1, ← hJ2]
 have HJ : Hid (J1 = (if 65536 < (joinB sep xs).size then ([], 3) else ([⟨3, 0, joinB sep xs, 0⟩], 0) : List It × Int).1 ∧ J2 = (if 65536 < (joinB sep xs).size then ([], 3) else ([⟨3, 0, joinB sep xs, 0⟩], 0) : List It × Int).2) := ⟨hJ1, hJ2⟩
 have Hr := hide hr
 have Hn := hide hn
 have Hz := hide hz
 clear hr hn hz hJ1 hJ2
 go_enter Tryz.func77, Tryz.ntmps77
 go_wp2_with fail
 go_loopw [6, 7] (fun v i W => ∃ (S k : Nat), k ≤ n ∧ v = .int .i64 (S : Int) ∧ i = .int .i64 k ∧ Hid (S + jlen sep (decide (k = 0)) (xs.drop k) = (joinB sep xs).size) ∧ S ≤ 65536 ∧ w = W) (fun _ i _ => n - (intOf i).toNat)
 case atStart => exact ⟨0, 0, Nat.zero_le _, rfl, rfl, hide (by show 0 + _ = _; rw [Nat.zero_add]; exact jlen_size sep xs), by omega, rfl⟩
 case round =>
  obtain ⟨S, k, hk, rfl, rfl, HS, hSle, rfl⟩ := hrel
  by_cases hlt : k < n
  ·have hI : (k : Int) < (n : Int) := by omega
   obtain ⟨x, hx⟩ : ∃ x, xs[k]? = some x := ⟨_, List.getElem?_eq_getElem (by have := Hn.out; omega)⟩
   obtain ⟨b, off, rfl, hcell⟩ := Hr.out.cellAt k (.string x) (by simp [hx])
   have hix := ix_str b off n c k hlt
   have hxz := Hz.out x (List.mem_of_getElem? hx)
   have HS2 : Hid (S + ((if decide (k = 0) = true then 0 else sep.size) + x.size + jlen sep false (xs.drop (k + 1))) = (joinB sep xs).size) := by
    show _ = _
    rw [← HS.out, drop_itm xs k x hx]
    rfl
   clear hx HS
   by_cases hk0 : k = 0
   ·have hk1 : ¬ (0 : Int) < (k : Int) := by omega
    have HS3 : Hid ((S + x.size) + jlen sep (decide (k + 1 = 0)) (xs.drop (k + 1)) = (joinB sep xs).size) := by
     show _ = _
     rw [← HS2.out, if_pos (by simpa using hk0)]; simp; omega
    clear HS2 hk0
    by_cases hbig : 65536 < S + x.size
    ·have hg : (65536 : Int) < (S : Int) + (x.size : Int) := by omega
     have HR : Hid (J1 = [] ∧ J2 = 3) := by
      have h3 := HS3.out
      obtain ⟨e1, e2⟩ := HJ.out
      rw [if_pos (by omega)] at e1 e2
      exact ⟨e1, e2⟩
     clear hbig
     go_wp2
     go_ret2
     exact ⟨.slice none 0 0, by rw [HR.out.2]; rfl, by rw [HR.out.1]; exact OwI.nil _ _, Below.refl _ _⟩
    ·have hg : ¬ (65536 : Int) < (S : Int) + (x.size : Int) := by omega
     go_wp2
     go_roundw
     case rel => exact ⟨S + x.size, k + 1, by omega, by simp, by simp, HS3, by omega, by trivial⟩
     case measure => simp [intOf]; omega
   ·have hk1 : (0 : Int) < (k : Int) := by omega
    have HS3 : Hid ((S + x.size + sep.size) + jlen sep (decide (k + 1 = 0)) (xs.drop (k + 1)) = (joinB sep xs).size) := by
     show _ = _
     rw [← HS2.out, if_neg (by simpa using hk0)]; simp; omega
    clear HS2
    by_cases hbig : 65536 < S + x.size + sep.size
    ·have hg : (65536 : Int) < (S : Int) + (x.size : Int) + (sep.size : Int) := by omega
     have HR : Hid (J1 = [] ∧ J2 = 3) := by
      have h3 := HS3.out
      obtain ⟨e1, e2⟩ := HJ.out
      rw [if_pos (by omega)] at e1 e2
      exact ⟨e1, e2⟩
     clear hbig hk0
     go_wp2
     go_ret2
     exact ⟨.slice none 0 0, by rw [HR.out.2]; rfl, by rw [HR.out.1]; exact OwI.nil _ _, Below.refl _ _⟩
    ·have hg : ¬ (65536 : Int) < (S : Int) + (x.size : Int) + (sep.size : Int) := by omega
     clear hk0
     go_wp2
     go_roundw
     case rel => exact ⟨S + x.size + sep.size, k + 1, by omega, by simp, by simp, HS3, by omega, by trivial⟩
     case measure => simp [intOf]; omega
  ·have hI : ¬ (k : Int) < (n : Int) := by omega
   have HR : Hid (J1 = [⟨3, 0, joinB sep xs, 0⟩] ∧ J2 = 0 ∧ (joinB sep xs).size ≤ 65536) := by
    have h3 := HS.out
    rw [List.drop_eq_nil_of_le (by have := Hn.out; omega)] at h3
    have h4 : jlen sep (decide (k = 0)) [] = 0 := by cases decide (k = 0) <;> rfl
    obtain ⟨e1, e2⟩ := HJ.out
    rw [if_neg (by omega)] at e1 e2
    exact ⟨e1, e2, by omega⟩
   have HB : Hid ((joinB sep xs) = ⟨(jby sep true xs).toArray⟩ ∧ (jby sep true xs).length ≤ 65536) := by
    have h3 := jby_join sep xs
    refine ⟨?_, ?_⟩
    ·rw [h3]
    ·rw [h3, show (joinB sep xs).data.toList.length = (joinB sep xs).size from Array.length_toList]; exact HR.out.2.2
   clear HS hSle hlt
   generalize joinB sep xs = jb at *
   go_wp2_with fail
   clear hI hk
   go_loopw [8, 9] (fun ov iv W => ∃ (k : Nat) (out : List UInt8), k ≤ n ∧ iv = .int .i64 k ∧ Hid (OwB W w.heap.size ov out) ∧ Hid (out ++ jby sep (decide (k = 0)) (xs.drop k) = jby sep true xs) ∧ Below w.heap.size w W) (fun _ iv _ => n - (intOf iv).toNat)
   case atStart => exact ⟨0, [], Nat.zero_le _, rfl, hide (OwB.nil _ _), hide rfl, Below.refl _ _⟩
   case round =>
    obtain ⟨k, out, hk, rfl, Ho, HT, hB⟩ := hrel
    obtain ⟨av, cv, hv⟩ := Ho.out.forms
    subst hv
    obtain ⟨m, hm⟩ : ∃ m, m = out.length := ⟨_, rfl⟩
    rw [← hm] at Ho ⊢
    have Hm := hide hm
    have hml : m ≤ 65536 := by
     have h1 := congrArg List.length HT.out
     rw [List.length_append] at h1
     have := HB.out.2
     omega
    clear hm
    by_cases hlt : k < n
    ·have hI : (k : Int) < (n : Int) := by omega
     obtain ⟨x, hx⟩ : ∃ x, xs[k]? = some x := ⟨_, List.getElem?_eq_getElem (by have := Hn.out; omega)⟩
     obtain ⟨b, off, rfl, hcell⟩ := (Hr.out.keep hB).cellAt k (.string x) (by simp [hx])
     have hix := ix_str b off n c k hlt
     have hxz := Hz.out x (List.mem_of_getElem? hx)
     have HT2 : Hid (out ++ ((if decide (k = 0) = true then [] else sep.data.toList) ++ x.data.toList ++ jby sep false (xs.drop (k + 1))) = jby sep true xs) := by
      show _ = _
      rw [← HT.out, drop_itm xs k x hx]
      rfl
     have hbs := hB.size
     clear hx HT
     by_cases hk0 : k = 0
     ·have hk1 : ¬ (0 : Int) < (k : Int) := by omega
      have HT3 : Hid ((out ++ x.data.toList) ++ jby sep (decide (k + 1 = 0)) (xs.drop (k + 1)) = jby sep true xs) := by
       show _ = _
       rw [← HT2.out, if_pos (by simpa using hk0)]; simp
      clear HT2 hk0
      go_wp2_with (refine wpList_appS rfl _ _ rfl w.heap.size (.slice av m cv) out x rfl rfl Ho.out ?s1 hbs ?_)
      case s1 => have := Hm.out; omega
      intro v3 W3 own3 hg3
      have hB3 : Below w.heap.size w W3 := hB.grown hg3 hbs fun b hb => (OwB.lt Ho.out b hb).1
      have Hown3 := hide own3
      clear own3 hg3 hB Ho hcell hix
      go_wp2
      go_roundw
      case rel => exact ⟨k + 1, out ++ x.data.toList, by omega, by simp, Hown3, HT3, hB3⟩
      case measure => simp [intOf]; omega
     ·have hk1 : (0 : Int) < (k : Int) := by omega
      have HT3 : Hid (((out ++ sep.data.toList) ++ x.data.toList) ++ jby sep (decide (k + 1 = 0)) (xs.drop (k + 1)) = jby sep true xs) := by
       show _ = _
       rw [← HT2.out, if_neg (by simpa using hk0)]; simp
      clear HT2 hk0
      go_wp2_with (refine wpList_appS rfl _ _ rfl w.heap.size (.slice av m cv) out sep rfl rfl Ho.out ?s1 hbs ?_)
      case s1 => have := Hm.out; omega
      intro v3 W3 own3 hg3
      have hB3 : Below w.heap.size w W3 := hB.grown hg3 hbs fun b hb => (OwB.lt Ho.out b hb).1
      have Hown3 := hide own3
      have hcell3 := hg3.cell hcell (fun e => by
       have := (OwB.lt Ho.out b e.symm).1
       have h2 := Rd.addrAt Hr.out (by intro e2; have h3 := congrArg List.length e2; rw [List.length_map, ← Hn.out] at h3; simp at h3; omega)
       obtain ⟨b5, o5, e5, h5, _⟩ := h2
       injection e5 with e5
       injection e5 with e5
       omega)
      obtain ⟨av2, cv2, hv2⟩ := own3.forms
      subst hv2
      obtain ⟨m2, hm2⟩ : ∃ m, m = (out ++ sep.data.toList).length := ⟨_, rfl⟩
      rw [← hm2] at Hown3 ⊢
      have Hm2 := hide hm2
      have hm2b : (out ++ sep.data.toList).length ≤ 2000000 := by
       rw [List.length_append, show sep.data.toList.length = sep.size from Array.length_toList, ← Hm.out]; omega
      have Hm2b := hide hm2b
      clear own3 hg3 hB Ho hcell hm2 hm2b
      go_wp2_with (refine wpList_appS rfl _ _ rfl w.heap.size (.slice av2 m2 cv2) (out ++ sep.data.toList) x rfl rfl Hown3.out ?s3 ?s4 ?_)
      case s3 => have := Hm2b.out; omega
      case s4 => exact hB3.size
      intro v4 W4 own4 hg4
      have hB4 : Below w.heap.size w W4 := hB3.grown hg4 hB3.size fun b hb => (OwB.lt Hown3.out b hb).1
      have Hown4 := hide own4
      clear own4 hg4 hB3 Hown3 hcell3 hix
      go_wp2
      go_roundw
      case rel => exact ⟨k + 1, out ++ (sep.data.toList ++ x.data.toList), by omega, by simp, Hown4, (by show _ = _; rw [← HT3.out]; simp), hB4⟩
      case measure => simp [intOf]; omega
    ·have hI : ¬ (k : Int) < (n : Int) := by omega
     have hx : jb = ⟨out.toArray⟩ := by
      have h3 := HT.out
      rw [List.drop_eq_nil_of_le (by have := Hn.out; omega)] at h3
      have h4 : jby sep (decide (k = 0)) [] = [] := by cases decide (k = 0) <;> rfl
      rw [h4, List.append_nil] at h3
      rw [HB.out.1, h3]
     have hcv := (OwB.rd Ho.out).str m cv Hm.out
     rw [← hx] at hcv
     have hbs := hB.size
     clear hx HT Ho HB
     go_wp2_with fail
     refine (rstr_own jb _).mono ?_
     rintro e w2 ⟨v, rfl, ho2, hb2⟩
     have Ho2 := hide (ho2.mono hbs)
     have hB2 := chain0 hB hb2
     clear ho2 hB hb2
     go_wp2
     go_ret2
     exact ⟨v, by rw [HR.out.2.1]; rfl, by rw [HR.out.1]; exact Ho2.out, hB2⟩
end Go.Proofs.YtaieiogmolaebaaGreatDoor
