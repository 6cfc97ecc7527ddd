/- The reference: Call (sum, min, max, number, abs, distinct-values, reverse). -/
import Derived.Test.YtaieiogmolaebaaGreatDoorC35
import Derived.Test.YtaieiogmolaebaaGreatDoorRg
import Derived.Test.YtaieiogmolaebaaGreatDoorRh
import Derived.Test.YtaieiogmolaebaaGreatDoorC27
namespace Go.Proofs.YtaieiogmolaebaaGreatDoor
open Go.RowKit
set_option maxRecDepth 100000 in
set_option maxHeartbeats 16000000 in
theorem Rl2_any (nm : List UInt8) (body : List Lst → List It × Int) (hG : (nm = [115, 117, 109] ∧ body = one1 fSum) ∨ (nm = [109, 105, 110] ∧ body = one1 fMin) ∨ (nm = [109, 97, 120] ∧ body = one1 fMax) ∨ (nm = [110, 117, 109, 98, 101, 114] ∧ body = one1 fNumber) ∨ (nm = [97, 98, 115] ∧ body = one1 fAbs) ∨ (nm = [100, 105, 115, 116, 105, 110, 99, 116, 45, 118, 97, 108, 117, 101, 115] ∧ body = one1 fDistinct) ∨ (nm = [114, 101, 118, 101, 114, 115, 101] ∧ body = one1 fReverse)) (p : Option Addr) (n c : Nat) (ls : List Lst) (w : World) (hr : Rd w p (ls.map Lst.v)) (hok : OkAs w ls) (hR : ∀ x ∈ ls, ∀ y ∈ x.l, R64 y.num) (hsz : ∀ x ∈ ls, ∀ y ∈ x.l, y.text.size ≤ 100000) (hL : ∀ x ∈ ls, x.l.length ≤ 1000000) (hn : n = ls.length) (hnm : n ≤ 1000) :
  Calls Tryz.prog 8 #[.string ⟨nm.toArray⟩, .slice p n c] w (Res w (cR nm body ls).1 (cR nm body ls).2) := by
 have Hr := hide hr
 have Hok := hide hok
 have HR := hide hR
 have Hsz := hide hsz
 have HL := hide hL
 have Hn := hide hn
 obtain ⟨JV, hJV⟩ : ∃ x, x = cR nm body ls := ⟨_, rfl⟩
 rw [← hJV]
 have HJV : Hid (JV = if rightL ls = true then (if knV nm n = true then body ls else ([], 241)) else ([], 2)) := by show _ = _; rw [hJV, hn]; rfl
 have HG := hide hG
 clear hr hok hR hsz hL hn hJV hG
 go_enter Tryz.func8, Tryz.ntmps8
 go_wp2_with fail
 go_loopw [6] (fun iv W => ∃ k : Nat, k ≤ n ∧ iv = .int .i64 k ∧ Hid (∀ x ∈ ls.take k, x.l.all okI = true) ∧ Below w.heap.size w W) (fun iv _ => n - (intOf iv).toNat)
 case atStart => exact ⟨0, Nat.zero_le _, rfl, hide (by simp), Below.refl _ _⟩
 case round =>
  obtain ⟨k, hk, rfl, Hz, hB⟩ := hrel
  by_cases hlt : k < n
  ·have hI : (k : Int) < (n : Int) := by omega
   obtain ⟨x, hx⟩ : ∃ x, ls[k]? = some x := ⟨_, List.getElem?_eq_getElem (by have := Hn.out; omega)⟩
   obtain ⟨b1, off1, e1, hcz⟩ := (Hr.out.keep hB).cellAt k x.v (by simp [hx])
   subst e1
   have hix := ix_row b1 off1 n c k hlt
   have Hx := hide hx
   have Hokx := hide (Hok.out x (List.mem_of_getElem? hx))
   have Hmx := hide (List.mem_of_getElem? hx)
   clear hx
   obtain ⟨xa, xl, xc⟩ := x
   obtain ⟨q, hq⟩ : ∃ q, q = xl.length := ⟨_, rfl⟩
   have hcx : wr.cell? ⟨b1, off1 + k, none⟩ = some (.slice xa q xc) := by rw [hq]; exact hcz
   clear hcz
   have Hq := hide hq
   clear hq
   have hrt := hide (rrights_any xa q xc xl wr ⟨Hokx.out.1.keep hB, Hokx.out.2⟩ Hq.out)
   rcases Bool.eq_false_or_eq_true (xl.all okI) with ha | ha
   ·rw [ha] at hrt
    have Hz2 : Hid (∀ x ∈ ls.take (k + 1), x.l.all okI = true) := by
     show ∀ x ∈ _, _
     intro x hx
     rw [List.take_add_one, Hx.out] at hx
     rcases List.mem_append.1 hx with hx | hx
     ·exact Hz.out x hx
     ·simp at hx; subst hx; exact ha
    clear ha Hz
    go_wp2_with fail
    refine hrt.out.mono ?_
    rintro e w4 ⟨rfl, hb4⟩
    have hB4 := chain0 hB hb4
    clear hb4 hB hcx hix
    go_wp2
    go_roundw
    case rel => exact ⟨k + 1, by omega, by simp, Hz2, hB4⟩
    case measure => simp [intOf]; omega
   ·rw [ha] at hrt
    have HA : Hid (JV = ([], 2)) := by
     show _ = _
     rw [HJV.out, if_neg]
     intro h
     unfold rightL at h
     rw [List.all_eq_true] at h
     have := h _ Hmx.out
     rw [ha] at this; cases this
    clear ha Hz
    go_wp2_with fail
    refine hrt.out.mono ?_
    rintro e w4 ⟨rfl, hb4⟩
    have hB4 := chain0 hB hb4
    clear hb4 hB hcx hix
    go_wp2
    go_ret2
    exact ⟨.slice none 0 0, by rw [HA.out]; rfl, by rw [HA.out]; exact OwI.nil _ _, hB4⟩
  ·have hI : ¬ (k : Int) < (n : Int) := by omega
   have hkn : k = n := by omega
   subst hkn
   have htk : ls.take k = ls := List.take_of_length_le (by have := Hn.out; omega)
   have hri : ∀ x ∈ ls, x.l.all okI = true := by have := Hz.out; rw [htk] at this; exact this
   have hrl : rightL ls = true := by unfold rightL; rw [List.all_eq_true]; exact hri
   rw [hrl, if_pos rfl] at HJV
   have Hri := hide hri
   clear htk Hz hri hrl hk
   go_wp2_with fail
   rcases HG.out with ⟨rfl, rfl⟩ | ⟨rfl, rfl⟩ | ⟨rfl, rfl⟩ | ⟨rfl, rfl⟩ | ⟨rfl, rfl⟩ | ⟨rfl, rfl⟩ | ⟨rfl, rfl⟩
   ·clear HG
    rw [show knV [115, 117, 109] k = (decide (1 ≤ k) && decide (k ≤ 1)) by exact knV_1 (by decide) (by decide)] at HJV
    refine (rarity_sum _).mono ?_
    rintro e w4 ⟨rfl, rfl⟩
    by_cases hkv : 1 ≤ k ∧ k ≤ 1
    ·have HJ : Hid (JV = (one1 fSum) ls) := by show _ = _; rw [HJV.out, if_pos (by simp; omega)]
     have q1 : ¬ (k : Int) < 1 := by omega
     have q2 : ¬ (1 : Int) < (k : Int) := by omega
     clear HJV
     have hk1 : k = 1 := by omega
     subst hk1
     obtain ⟨la, rfl⟩ := List.length_eq_one_iff.1 Hn.out.symm
     obtain ⟨b0, off0, e0, hcz⟩ := (Hr.out.keep hB).cellAt 0 la.v rfl
     subst e0
     rw [Nat.add_zero] at hcz
     have hix0 := ix_rowA b0 off0 1 c (by decide)
     have Hla := hide (Hok.out la (by simp))
     have HlR := hide (HR.out la (by simp))
     have HlS := hide (Hsz.out la (by simp))
     have HlL := hide (HL.out la (by simp))
     have Hlr := hide (Hri.out la (by simp))
     obtain ⟨aa, al, ac⟩ := la
     obtain ⟨q, hq⟩ : ∃ q, q = al.length := ⟨_, rfl⟩
     have hc0 : wr.cell? ⟨b0, off0, none⟩ = some (.slice aa q ac) := by rw [hq]; exact hcz
     clear hcz
     have Hq := hide hq
     have HlT : Hid (∀ y ∈ al, y.kind = 4 → y.text = ⟨#[]⟩) := fun y hy h4 => ok_kind4 (List.all_eq_true.1 Hlr.out y hy) h4
     clear hq hkv
     have Hla2 := hide (show OkA wr ⟨aa, al, ac⟩ from ⟨Hla.out.1.keep hB, Hla.out.2⟩)
     have HA9 : Hid (JV = fSum al) := by exact HJ.out.trans rfl
     obtain ⟨J1, J2⟩ := JV
     have hcon := hide (rn_sum aa q ac al wr Hla2.out HlT.out HlR.out Hq.out)
     rw [show fSum al = (J1, J2) from HA9.out.symm] at hcon
     clear HA9
     have HA9 : Hid (((J1, J2) : List It × Int) = (J1, J2)) := rfl
     go_wp2_with fail
     refine hcon.out.mono ?_
     rintro e w9 ⟨v9, rfl, ho9, hb9⟩
     have Ho9 := hide (ho9.mono hB.size)
     have hB9 := chain0 hB hb9
     clear ho9 hb9 hB HA9
     go_wp2
     go_ret2
     exact ⟨v9, rfl, Ho9.out, hB9⟩
    ·have HA : Hid (JV = ([], 241)) := by show _ = _; rw [HJV.out, if_neg (by simp; omega)]
     clear HJV
     by_cases hc : k < 1
     ·have q1 : (k : Int) < 1 := by omega
      clear hkv hc
      go_wp2
      go_ret2
      exact ⟨.slice none 0 0, by rw [HA.out]; rfl, by rw [HA.out]; exact OwI.nil _ _, hB⟩
     ·have q1 : ¬ (k : Int) < 1 := by omega
      have q2 : (1 : Int) < (k : Int) := by omega
      clear hkv hc
      go_wp2
      go_ret2
      exact ⟨.slice none 0 0, by rw [HA.out]; rfl, by rw [HA.out]; exact OwI.nil _ _, hB⟩
   ·clear HG
    rw [show knV [109, 105, 110] k = (decide (1 ≤ k) && decide (k ≤ 1)) by exact knV_1 (by decide) (by decide)] at HJV
    refine (rarity_min _).mono ?_
    rintro e w4 ⟨rfl, rfl⟩
    by_cases hkv : 1 ≤ k ∧ k ≤ 1
    ·have HJ : Hid (JV = (one1 fMin) ls) := by show _ = _; rw [HJV.out, if_pos (by simp; omega)]
     have q1 : ¬ (k : Int) < 1 := by omega
     have q2 : ¬ (1 : Int) < (k : Int) := by omega
     clear HJV
     have hk1 : k = 1 := by omega
     subst hk1
     obtain ⟨la, rfl⟩ := List.length_eq_one_iff.1 Hn.out.symm
     obtain ⟨b0, off0, e0, hcz⟩ := (Hr.out.keep hB).cellAt 0 la.v rfl
     subst e0
     rw [Nat.add_zero] at hcz
     have hix0 := ix_rowA b0 off0 1 c (by decide)
     have Hla := hide (Hok.out la (by simp))
     have HlR := hide (HR.out la (by simp))
     have HlS := hide (Hsz.out la (by simp))
     have HlL := hide (HL.out la (by simp))
     have Hlr := hide (Hri.out la (by simp))
     obtain ⟨aa, al, ac⟩ := la
     obtain ⟨q, hq⟩ : ∃ q, q = al.length := ⟨_, rfl⟩
     have hc0 : wr.cell? ⟨b0, off0, none⟩ = some (.slice aa q ac) := by rw [hq]; exact hcz
     clear hcz
     have Hq := hide hq
     have HlT : Hid (∀ y ∈ al, y.kind = 4 → y.text = ⟨#[]⟩) := fun y hy h4 => ok_kind4 (List.all_eq_true.1 Hlr.out y hy) h4
     clear hq hkv
     have Hla2 := hide (show OkA wr ⟨aa, al, ac⟩ from ⟨Hla.out.1.keep hB, Hla.out.2⟩)
     have HA9 : Hid (JV = fMin al) := by exact HJ.out.trans rfl
     obtain ⟨J1, J2⟩ := JV
     have hcon := hide (rn_min aa q ac al wr Hla2.out HlT.out HlR.out Hq.out)
     rw [show fMin al = (J1, J2) from HA9.out.symm] at hcon
     clear HA9
     have HA9 : Hid (((J1, J2) : List It × Int) = (J1, J2)) := rfl
     go_wp2_with fail
     refine hcon.out.mono ?_
     rintro e w9 ⟨v9, rfl, ho9, hb9⟩
     have Ho9 := hide (ho9.mono hB.size)
     have hB9 := chain0 hB hb9
     clear ho9 hb9 hB HA9
     go_wp2
     go_ret2
     exact ⟨v9, rfl, Ho9.out, hB9⟩
    ·have HA : Hid (JV = ([], 241)) := by show _ = _; rw [HJV.out, if_neg (by simp; omega)]
     clear HJV
     by_cases hc : k < 1
     ·have q1 : (k : Int) < 1 := by omega
      clear hkv hc
      go_wp2
      go_ret2
      exact ⟨.slice none 0 0, by rw [HA.out]; rfl, by rw [HA.out]; exact OwI.nil _ _, hB⟩
     ·have q1 : ¬ (k : Int) < 1 := by omega
      have q2 : (1 : Int) < (k : Int) := by omega
      clear hkv hc
      go_wp2
      go_ret2
      exact ⟨.slice none 0 0, by rw [HA.out]; rfl, by rw [HA.out]; exact OwI.nil _ _, hB⟩
   ·clear HG
    rw [show knV [109, 97, 120] k = (decide (1 ≤ k) && decide (k ≤ 1)) by exact knV_1 (by decide) (by decide)] at HJV
    refine (rarity_max _).mono ?_
    rintro e w4 ⟨rfl, rfl⟩
    by_cases hkv : 1 ≤ k ∧ k ≤ 1
    ·have HJ : Hid (JV = (one1 fMax) ls) := by show _ = _; rw [HJV.out, if_pos (by simp; omega)]
     have q1 : ¬ (k : Int) < 1 := by omega
     have q2 : ¬ (1 : Int) < (k : Int) := by omega
     clear HJV
     have hk1 : k = 1 := by omega
     subst hk1
     obtain ⟨la, rfl⟩ := List.length_eq_one_iff.1 Hn.out.symm
     obtain ⟨b0, off0, e0, hcz⟩ := (Hr.out.keep hB).cellAt 0 la.v rfl
     subst e0
     rw [Nat.add_zero] at hcz
     have hix0 := ix_rowA b0 off0 1 c (by decide)
     have Hla := hide (Hok.out la (by simp))
     have HlR := hide (HR.out la (by simp))
     have HlS := hide (Hsz.out la (by simp))
     have HlL := hide (HL.out la (by simp))
     have Hlr := hide (Hri.out la (by simp))
     obtain ⟨aa, al, ac⟩ := la
     obtain ⟨q, hq⟩ : ∃ q, q = al.length := ⟨_, rfl⟩
     have hc0 : wr.cell? ⟨b0, off0, none⟩ = some (.slice aa q ac) := by rw [hq]; exact hcz
     clear hcz
     have Hq := hide hq
     have HlT : Hid (∀ y ∈ al, y.kind = 4 → y.text = ⟨#[]⟩) := fun y hy h4 => ok_kind4 (List.all_eq_true.1 Hlr.out y hy) h4
     clear hq hkv
     have Hla2 := hide (show OkA wr ⟨aa, al, ac⟩ from ⟨Hla.out.1.keep hB, Hla.out.2⟩)
     have HA9 : Hid (JV = fMax al) := by exact HJ.out.trans rfl
     obtain ⟨J1, J2⟩ := JV
     have hcon := hide (rn_max aa q ac al wr Hla2.out HlT.out HlR.out Hq.out)
     rw [show fMax al = (J1, J2) from HA9.out.symm] at hcon
     clear HA9
     have HA9 : Hid (((J1, J2) : List It × Int) = (J1, J2)) := rfl
     go_wp2_with fail
     refine hcon.out.mono ?_
     rintro e w9 ⟨v9, rfl, ho9, hb9⟩
     have Ho9 := hide (ho9.mono hB.size)
     have hB9 := chain0 hB hb9
     clear ho9 hb9 hB HA9
     go_wp2
     go_ret2
     exact ⟨v9, rfl, Ho9.out, hB9⟩
    ·have HA : Hid (JV = ([], 241)) := by show _ = _; rw [HJV.out, if_neg (by simp; omega)]
     clear HJV
     by_cases hc : k < 1
     ·have q1 : (k : Int) < 1 := by omega
      clear hkv hc
      go_wp2
      go_ret2
      exact ⟨.slice none 0 0, by rw [HA.out]; rfl, by rw [HA.out]; exact OwI.nil _ _, hB⟩
     ·have q1 : ¬ (k : Int) < 1 := by omega
      have q2 : (1 : Int) < (k : Int) := by omega
      clear hkv hc
      go_wp2
      go_ret2
      exact ⟨.slice none 0 0, by rw [HA.out]; rfl, by rw [HA.out]; exact OwI.nil _ _, hB⟩
   ·clear HG
    rw [show knV [110, 117, 109, 98, 101, 114] k = (decide (1 ≤ k) && decide (k ≤ 1)) by exact knV_1 (by decide) (by decide)] at HJV
    refine (rarity_number _).mono ?_
    rintro e w4 ⟨rfl, rfl⟩
    by_cases hkv : 1 ≤ k ∧ k ≤ 1
    ·have HJ : Hid (JV = (one1 fNumber) ls) := by show _ = _; rw [HJV.out, if_pos (by simp; omega)]
     have q1 : ¬ (k : Int) < 1 := by omega
     have q2 : ¬ (1 : Int) < (k : Int) := by omega
     clear HJV
     have hk1 : k = 1 := by omega
     subst hk1
     obtain ⟨la, rfl⟩ := List.length_eq_one_iff.1 Hn.out.symm
     obtain ⟨b0, off0, e0, hcz⟩ := (Hr.out.keep hB).cellAt 0 la.v rfl
     subst e0
     rw [Nat.add_zero] at hcz
     have hix0 := ix_rowA b0 off0 1 c (by decide)
     have Hla := hide (Hok.out la (by simp))
     have HlR := hide (HR.out la (by simp))
     have HlS := hide (Hsz.out la (by simp))
     have HlL := hide (HL.out la (by simp))
     have Hlr := hide (Hri.out la (by simp))
     obtain ⟨aa, al, ac⟩ := la
     obtain ⟨q, hq⟩ : ∃ q, q = al.length := ⟨_, rfl⟩
     have hc0 : wr.cell? ⟨b0, off0, none⟩ = some (.slice aa q ac) := by rw [hq]; exact hcz
     clear hcz
     have Hq := hide hq
     have HlT : Hid (∀ y ∈ al, y.kind = 4 → y.text = ⟨#[]⟩) := fun y hy h4 => ok_kind4 (List.all_eq_true.1 Hlr.out y hy) h4
     clear hq hkv
     have Hla2 := hide (show OkA wr ⟨aa, al, ac⟩ from ⟨Hla.out.1.keep hB, Hla.out.2⟩)
     have HA9 : Hid (JV = fNumber al) := by exact HJ.out.trans rfl
     obtain ⟨J1, J2⟩ := JV
     have hcon := hide (rn_number aa q ac al wr Hla2.out HlT.out HlR.out Hq.out)
     rw [show fNumber al = (J1, J2) from HA9.out.symm] at hcon
     clear HA9
     have HA9 : Hid (((J1, J2) : List It × Int) = (J1, J2)) := rfl
     go_wp2_with fail
     refine hcon.out.mono ?_
     rintro e w9 ⟨v9, rfl, ho9, hb9⟩
     have Ho9 := hide (ho9.mono hB.size)
     have hB9 := chain0 hB hb9
     clear ho9 hb9 hB HA9
     go_wp2
     go_ret2
     exact ⟨v9, rfl, Ho9.out, hB9⟩
    ·have HA : Hid (JV = ([], 241)) := by show _ = _; rw [HJV.out, if_neg (by simp; omega)]
     clear HJV
     by_cases hc : k < 1
     ·have q1 : (k : Int) < 1 := by omega
      clear hkv hc
      go_wp2
      go_ret2
      exact ⟨.slice none 0 0, by rw [HA.out]; rfl, by rw [HA.out]; exact OwI.nil _ _, hB⟩
     ·have q1 : ¬ (k : Int) < 1 := by omega
      have q2 : (1 : Int) < (k : Int) := by omega
      clear hkv hc
      go_wp2
      go_ret2
      exact ⟨.slice none 0 0, by rw [HA.out]; rfl, by rw [HA.out]; exact OwI.nil _ _, hB⟩
   ·clear HG
    rw [show knV [97, 98, 115] k = (decide (1 ≤ k) && decide (k ≤ 1)) by exact knV_1 (by decide) (by decide)] at HJV
    refine (rarity_abs _).mono ?_
    rintro e w4 ⟨rfl, rfl⟩
    by_cases hkv : 1 ≤ k ∧ k ≤ 1
    ·have HJ : Hid (JV = (one1 fAbs) ls) := by show _ = _; rw [HJV.out, if_pos (by simp; omega)]
     have q1 : ¬ (k : Int) < 1 := by omega
     have q2 : ¬ (1 : Int) < (k : Int) := by omega
     clear HJV
     have hk1 : k = 1 := by omega
     subst hk1
     obtain ⟨la, rfl⟩ := List.length_eq_one_iff.1 Hn.out.symm
     obtain ⟨b0, off0, e0, hcz⟩ := (Hr.out.keep hB).cellAt 0 la.v rfl
     subst e0
     rw [Nat.add_zero] at hcz
     have hix0 := ix_rowA b0 off0 1 c (by decide)
     have Hla := hide (Hok.out la (by simp))
     have HlR := hide (HR.out la (by simp))
     have HlS := hide (Hsz.out la (by simp))
     have HlL := hide (HL.out la (by simp))
     have Hlr := hide (Hri.out la (by simp))
     obtain ⟨aa, al, ac⟩ := la
     obtain ⟨q, hq⟩ : ∃ q, q = al.length := ⟨_, rfl⟩
     have hc0 : wr.cell? ⟨b0, off0, none⟩ = some (.slice aa q ac) := by rw [hq]; exact hcz
     clear hcz
     have Hq := hide hq
     have HlT : Hid (∀ y ∈ al, y.kind = 4 → y.text = ⟨#[]⟩) := fun y hy h4 => ok_kind4 (List.all_eq_true.1 Hlr.out y hy) h4
     clear hq hkv
     have Hla2 := hide (show OkA wr ⟨aa, al, ac⟩ from ⟨Hla.out.1.keep hB, Hla.out.2⟩)
     have HA9 : Hid (JV = fAbs al) := by exact HJ.out.trans rfl
     obtain ⟨J1, J2⟩ := JV
     have hcon := hide (rn_abs aa q ac al wr Hla2.out HlT.out HlR.out Hq.out)
     rw [show fAbs al = (J1, J2) from HA9.out.symm] at hcon
     clear HA9
     have HA9 : Hid (((J1, J2) : List It × Int) = (J1, J2)) := rfl
     go_wp2_with fail
     refine hcon.out.mono ?_
     rintro e w9 ⟨v9, rfl, ho9, hb9⟩
     have Ho9 := hide (ho9.mono hB.size)
     have hB9 := chain0 hB hb9
     clear ho9 hb9 hB HA9
     go_wp2
     go_ret2
     exact ⟨v9, rfl, Ho9.out, hB9⟩
    ·have HA : Hid (JV = ([], 241)) := by show _ = _; rw [HJV.out, if_neg (by simp; omega)]
     clear HJV
     by_cases hc : k < 1
     ·have q1 : (k : Int) < 1 := by omega
      clear hkv hc
      go_wp2
      go_ret2
      exact ⟨.slice none 0 0, by rw [HA.out]; rfl, by rw [HA.out]; exact OwI.nil _ _, hB⟩
     ·have q1 : ¬ (k : Int) < 1 := by omega
      have q2 : (1 : Int) < (k : Int) := by omega
      clear hkv hc
      go_wp2
      go_ret2
      exact ⟨.slice none 0 0, by rw [HA.out]; rfl, by rw [HA.out]; exact OwI.nil _ _, hB⟩
   ·clear HG
    rw [show knV [100, 105, 115, 116, 105, 110, 99, 116, 45, 118, 97, 108, 117, 101, 115] k = (decide (1 ≤ k) && decide (k ≤ 1)) by exact knV_1 (by decide) (by decide)] at HJV
    refine (rarity_distinct_values _).mono ?_
    rintro e w4 ⟨rfl, rfl⟩
    by_cases hkv : 1 ≤ k ∧ k ≤ 1
    ·have HJ : Hid (JV = (one1 fDistinct) ls) := by show _ = _; rw [HJV.out, if_pos (by simp; omega)]
     have q1 : ¬ (k : Int) < 1 := by omega
     have q2 : ¬ (1 : Int) < (k : Int) := by omega
     clear HJV
     have hk1 : k = 1 := by omega
     subst hk1
     obtain ⟨la, rfl⟩ := List.length_eq_one_iff.1 Hn.out.symm
     obtain ⟨b0, off0, e0, hcz⟩ := (Hr.out.keep hB).cellAt 0 la.v rfl
     subst e0
     rw [Nat.add_zero] at hcz
     have hix0 := ix_rowA b0 off0 1 c (by decide)
     have Hla := hide (Hok.out la (by simp))
     have HlR := hide (HR.out la (by simp))
     have HlS := hide (Hsz.out la (by simp))
     have HlL := hide (HL.out la (by simp))
     have Hlr := hide (Hri.out la (by simp))
     obtain ⟨aa, al, ac⟩ := la
     obtain ⟨q, hq⟩ : ∃ q, q = al.length := ⟨_, rfl⟩
     have hc0 : wr.cell? ⟨b0, off0, none⟩ = some (.slice aa q ac) := by rw [hq]; exact hcz
     clear hcz
     have Hq := hide hq
     have HlT : Hid (∀ y ∈ al, y.kind = 4 → y.text = ⟨#[]⟩) := fun y hy h4 => ok_kind4 (List.all_eq_true.1 Hlr.out y hy) h4
     clear hq hkv
     have Hla2 := hide (show OkA wr ⟨aa, al, ac⟩ from ⟨Hla.out.1.keep hB, Hla.out.2⟩)
     have HA9 : Hid (JV = (distL al, 0)) := by exact HJ.out.trans rfl
     have hcon := hide (rdistinct_any aa q ac al wr Hla2.out.1 Hq.out (by rw [Hq.out]; exact HlL.out))
     go_wp2_with fail
     refine hcon.out.mono ?_
     rintro e w9 ⟨v9, rfl, ho9, hb9⟩
     have Ho9 := hide (ho9.mono hB.size)
     have hB9 := chain0 hB hb9
     clear ho9 hb9 hB
     go_wp2
     go_ret2
     exact ⟨v9, by rw [HA9.out]; rfl, by rw [HA9.out]; exact Ho9.out, hB9⟩
    ·have HA : Hid (JV = ([], 241)) := by show _ = _; rw [HJV.out, if_neg (by simp; omega)]
     clear HJV
     by_cases hc : k < 1
     ·have q1 : (k : Int) < 1 := by omega
      clear hkv hc
      go_wp2
      go_ret2
      exact ⟨.slice none 0 0, by rw [HA.out]; rfl, by rw [HA.out]; exact OwI.nil _ _, hB⟩
     ·have q1 : ¬ (k : Int) < 1 := by omega
      have q2 : (1 : Int) < (k : Int) := by omega
      clear hkv hc
      go_wp2
      go_ret2
      exact ⟨.slice none 0 0, by rw [HA.out]; rfl, by rw [HA.out]; exact OwI.nil _ _, hB⟩
   ·clear HG
    rw [show knV [114, 101, 118, 101, 114, 115, 101] k = (decide (1 ≤ k) && decide (k ≤ 1)) by exact knV_1 (by decide) (by decide)] at HJV
    refine (rarity_reverse _).mono ?_
    rintro e w4 ⟨rfl, rfl⟩
    by_cases hkv : 1 ≤ k ∧ k ≤ 1
    ·have HJ : Hid (JV = (one1 fReverse) ls) := by show _ = _; rw [HJV.out, if_pos (by simp; omega)]
     have q1 : ¬ (k : Int) < 1 := by omega
     have q2 : ¬ (1 : Int) < (k : Int) := by omega
     clear HJV
     have hk1 : k = 1 := by omega
     subst hk1
     obtain ⟨la, rfl⟩ := List.length_eq_one_iff.1 Hn.out.symm
     obtain ⟨b0, off0, e0, hcz⟩ := (Hr.out.keep hB).cellAt 0 la.v rfl
     subst e0
     rw [Nat.add_zero] at hcz
     have hix0 := ix_rowA b0 off0 1 c (by decide)
     have Hla := hide (Hok.out la (by simp))
     have HlR := hide (HR.out la (by simp))
     have HlS := hide (Hsz.out la (by simp))
     have HlL := hide (HL.out la (by simp))
     have Hlr := hide (Hri.out la (by simp))
     obtain ⟨aa, al, ac⟩ := la
     obtain ⟨q, hq⟩ : ∃ q, q = al.length := ⟨_, rfl⟩
     have hc0 : wr.cell? ⟨b0, off0, none⟩ = some (.slice aa q ac) := by rw [hq]; exact hcz
     clear hcz
     have Hq := hide hq
     have HlT : Hid (∀ y ∈ al, y.kind = 4 → y.text = ⟨#[]⟩) := fun y hy h4 => ok_kind4 (List.all_eq_true.1 Hlr.out y hy) h4
     clear hq hkv
     have Hla2 := hide (show OkA wr ⟨aa, al, ac⟩ from ⟨Hla.out.1.keep hB, Hla.out.2⟩)
     have HA9 : Hid (JV = (al.reverse, 0)) := by exact HJ.out.trans rfl
     obtain ⟨i0, hi, hz0, hz1, hz2⟩ := info_parts itemInfo
     have Hi : Hid (Tryz.prog.info? 36 = some i0 ∧ i0.zero = some (.agg #[.int .u8 0, .int .i64 0, .string ⟨#[]⟩, .int .i64 0]) ∧ i0.size = 4 ∧ i0.bytes = 40) := ⟨hi, hz0, hz1, hz2⟩
     have hqL : q ≤ 1000000 := by rw [Hq.out]; exact HlL.out
     have Hc0 := hide hc0
     obtain ⟨W1, rfl⟩ : ∃ W1, W1 = wr := ⟨_, rfl⟩
     have hBw := hB
     clear hB hi hz0 hz1 hz2
     go_wp2_with fail
     clear hc0
     go_loopw [12, 13] (fun ov iv W => ∃ k : Nat, k ≤ q ∧ iv = .int .i64 ((q : Int) - 1 - k) ∧ Hid (OwI W W1.heap.size ov (al.reverse.take k)) ∧ Below W1.heap.size W1 W) (fun iv iv2 W => (intOf iv2 + 1).toNat)
     case atStart => exact ⟨0, Nat.zero_le _, by simp, hide (OwI.nil _ _), Below.refl _ _⟩
     case round =>
      obtain ⟨j, hj, rfl, Ho, hBb⟩ := hrel
      obtain ⟨av, cv, hv⟩ := ow_forms Ho.out
      subst hv
      have c0 := cell_keep hBb Hc0.out
      have hll : (al.reverse.take j).length = j := by rw [List.length_take, List.length_reverse, ← Hq.out]; omega
      by_cases hjq : j < q
      ·have hI : (0 : Int) ≤ (q : Int) - 1 - j := by omega
       obtain ⟨x, hx⟩ : ∃ x, al[q - 1 - j]? = some x := ⟨_, List.getElem?_eq_getElem (by have := Hq.out; omega)⟩
       have htk : Hid (al.reverse.take (j + 1) = al.reverse.take j ++ [x]) := by
        show _ = _
        rw [List.take_add_one, List.getElem?_reverse (by rw [← Hq.out]; exact hjq), ← Hq.out, show q - 1 - j = q - 1 - j from rfl, hx]
        rfl
       obtain ⟨b1, off1, e1, d0, d1, d2, d3⟩ := ((Hla2.out.1).keep hBb).at (q - 1 - j) x hx
       dsimp only at e1
       subst e1
       have hix2 := ix_item b1 off1 q ac (q - 1 - j) (by omega)
       rw [show (((q - 1 - j : Nat)) : Int) = (q : Int) - 1 - j by omega] at hix2
       clear hx
       obtain ⟨xk, xa, xt, xd⟩ := x
       dsimp only at d0 d1 d2 d3
       rw [hll] at Ho ⊢
       obtain ⟨rv, hrv⟩ : ∃ r, r = al.reverse.take j := ⟨_, rfl⟩
       rw [← hrv] at Ho htk
       have hrl : rv.length = j := by rw [hrv]; exact hll
       have Hrl := hide hrl
       have hka := (Below.refl wr.heap.size wr).alloc (Nat.le_refl _) (.cells #[.int .u8 xk, .int .i64 xa, .string xt, .int .i64 xd] 36)
       have HO2 := hide (OwI.keep Ho.out hka)
       have Hrd := hide (RdI.new wr 36 [⟨xk, xa, xt, xd⟩])
       have hB4 := hBb.alloc hBb.size (.cells #[.int .u8 xk, .int .i64 xa, .string xt, .int .i64 xd] 36)
       clear hka hBb hrv hrl hll Ho
       go_wp2_with (at_builtin; refine wpList_appR rfl _ _ 25 rfl i0 _ 40 1 Tryz.underlying25 Hi.out.1 Hi.out.2.1 Hi.out.2.2.1 Hi.out.2.2.2 rfl (by decide) rfl rfl (one_items [⟨xk, xa, xt, xd⟩]) HO2.out Hrd.out (m := 1) rfl ?e2 ?e3 ?e4 ?_)
       case e2 => have := Hrl.out; omega
       case e3 => have := Hrl.out; omega
       case e4 => first | exact hB4.size | simpa using hB4.size
       intro v3 W3 own3 hg3 hv3
       have own4 : OwI W3 W1.heap.size v3 (al.reverse.take (j + 1)) := by
        rw [htk.out]
        unfold OwI
        rw [icells_append, List.length_append, List.length_singleton]
        exact own3
       have hB5 : Below W1.heap.size W1 W3 := hB4.grown hg3 hB4.size fun b hb => (ow_lt HO2.out b hb).1
       have Hown4 := hide own4
       clear own3 hg3 hv3 own4 HO2 Hrd hB4 d0 d1 d2 d3 c0 hix2 htk
       go_wp2
       go_roundw
       case rel => exact ⟨j + 1, by omega, by simp; omega, Hown4, hB5⟩
       case measure => simp [intOf]; omega
      ·have hI : ¬ (0 : Int) ≤ (q : Int) - 1 - j := by omega
       have hx : al.reverse.take j = al.reverse := List.take_of_length_le (by rw [List.length_reverse, ← Hq.out]; omega)
       rw [hll] at Ho ⊢
       have hfin := Ho.out
       rw [hx] at hfin
       have Ho9 := hide (OwI.mono hfin hBw.size)
       have hB9 := chain0 hBw hBb
       clear hx hfin Ho c0 hll
       go_wp2
       go_ret2
       exact ⟨_, by rw [HA9.out]; rfl, by rw [HA9.out]; exact Ho9.out, hB9⟩
    ·have HA : Hid (JV = ([], 241)) := by show _ = _; rw [HJV.out, if_neg (by simp; omega)]
     clear HJV
     by_cases hc : k < 1
     ·have q1 : (k : Int) < 1 := by omega
      clear hkv hc
      go_wp2
      go_ret2
      exact ⟨.slice none 0 0, by rw [HA.out]; rfl, by rw [HA.out]; exact OwI.nil _ _, hB⟩
     ·have q1 : ¬ (k : Int) < 1 := by omega
      have q2 : (1 : Int) < (k : Int) := by omega
      clear hkv hc
      go_wp2
      go_ret2
      exact ⟨.slice none 0 0, by rw [HA.out]; rfl, by rw [HA.out]; exact OwI.nil _ _, hB⟩
end Go.Proofs.YtaieiogmolaebaaGreatDoor
