/- The reference: Call (true, false, count, empty, exists, not, boolean). -/
import Derived.Test.YtaieiogmolaebaaGreatDoorC35
namespace Go.Proofs.YtaieiogmolaebaaGreatDoor
open Go.RowKit
set_option maxRecDepth 100000 in
set_option maxHeartbeats 16000000 in
theorem Rl1_any (nm : List UInt8) (body : List Lst → List It × Int) (hG : (nm = [116, 114, 117, 101] ∧ body = fun _ => ([⟨4, bN true, ⟨#[]⟩, 0⟩], 0)) ∨ (nm = [102, 97, 108, 115, 101] ∧ body = fun _ => ([⟨4, bN false, ⟨#[]⟩, 0⟩], 0)) ∨ (nm = [99, 111, 117, 110, 116] ∧ body = one1 fCount) ∨ (nm = [101, 109, 112, 116, 121] ∧ body = one1 fEmpty) ∨ (nm = [101, 120, 105, 115, 116, 115] ∧ body = one1 fExists) ∨ (nm = [110, 111, 116] ∧ body = one1 fNot) ∨ (nm = [98, 111, 111, 108, 101, 97, 110] ∧ body = one1 fBoolean)) (p : Option Addr) (n c : Nat) (ls : List Lst) (w : World) (hr : Rd w p (ls.map Lst.v)) (hok : OkAs w ls) (hR : ∀ x ∈ ls, ∀ y ∈ x.l, R64 y.num) (hsz : ∀ x ∈ ls, ∀ y ∈ x.l, y.text.size ≤ 100000) (hL : ∀ x ∈ ls, x.l.length ≤ 1000000) (hn : n = ls.length) (hnm : n ≤ 1000) :
  Calls Tryz.prog 8 #[.string ⟨nm.toArray⟩, .slice p n c] w (Res w (cR nm body ls).1 (cR nm body ls).2) := by
 have Hr := hide hr
 have Hok := hide hok
 have HR := hide hR
 have Hsz := hide hsz
 have HL := hide hL
 have Hn := hide hn
 obtain ⟨JV, hJV⟩ : ∃ x, x = cR nm body ls := ⟨_, rfl⟩
 rw [← hJV]
 have HJV : Hid (JV = if rightL ls = true then (if knV nm n = true then body ls else ([], 241)) else ([], 2)) := by show _ = _; rw [hJV, hn]; rfl
 have HG := hide hG
 clear hr hok hR hsz hL hn hJV hG
 go_enter Tryz.func8, Tryz.ntmps8
 go_wp2_with fail
 go_loopw [6] (fun iv W => ∃ k : Nat, k ≤ n ∧ iv = .int .i64 k ∧ Hid (∀ x ∈ ls.take k, x.l.all okI = true) ∧ Below w.heap.size w W) (fun iv _ => n - (intOf iv).toNat)
 case atStart => exact ⟨0, Nat.zero_le _, rfl, hide (by simp), Below.refl _ _⟩
 case round =>
  obtain ⟨k, hk, rfl, Hz, hB⟩ := hrel
  by_cases hlt : k < n
  ·have hI : (k : Int) < (n : Int) := by omega
   obtain ⟨x, hx⟩ : ∃ x, ls[k]? = some x := ⟨_, List.getElem?_eq_getElem (by have := Hn.out; omega)⟩
   obtain ⟨b1, off1, e1, hcz⟩ := (Hr.out.keep hB).cellAt k x.v (by simp [hx])
   subst e1
   have hix := ix_row b1 off1 n c k hlt
   have Hx := hide hx
   have Hokx := hide (Hok.out x (List.mem_of_getElem? hx))
   have Hmx := hide (List.mem_of_getElem? hx)
   clear hx
   obtain ⟨xa, xl, xc⟩ := x
   obtain ⟨q, hq⟩ : ∃ q, q = xl.length := ⟨_, rfl⟩
   have hcx : wr.cell? ⟨b1, off1 + k, none⟩ = some (.slice xa q xc) := by rw [hq]; exact hcz
   clear hcz
   have Hq := hide hq
   clear hq
   have hrt := hide (rrights_any xa q xc xl wr ⟨Hokx.out.1.keep hB, Hokx.out.2⟩ Hq.out)
   rcases Bool.eq_false_or_eq_true (xl.all okI) with ha | ha
   ·rw [ha] at hrt
    have Hz2 : Hid (∀ x ∈ ls.take (k + 1), x.l.all okI = true) := by
     show ∀ x ∈ _, _
     intro x hx
     rw [List.take_add_one, Hx.out] at hx
     rcases List.mem_append.1 hx with hx | hx
     ·exact Hz.out x hx
     ·simp at hx; subst hx; exact ha
    clear ha Hz
    go_wp2_with fail
    refine hrt.out.mono ?_
    rintro e w4 ⟨rfl, hb4⟩
    have hB4 := chain0 hB hb4
    clear hb4 hB hcx hix
    go_wp2
    go_roundw
    case rel => exact ⟨k + 1, by omega, by simp, Hz2, hB4⟩
    case measure => simp [intOf]; omega
   ·rw [ha] at hrt
    have HA : Hid (JV = ([], 2)) := by
     show _ = _
     rw [HJV.out, if_neg]
     intro h
     unfold rightL at h
     rw [List.all_eq_true] at h
     have := h _ Hmx.out
     rw [ha] at this; cases this
    clear ha Hz
    go_wp2_with fail
    refine hrt.out.mono ?_
    rintro e w4 ⟨rfl, hb4⟩
    have hB4 := chain0 hB hb4
    clear hb4 hB hcx hix
    go_wp2
    go_ret2
    exact ⟨.slice none 0 0, by rw [HA.out]; rfl, by rw [HA.out]; exact OwI.nil _ _, hB4⟩
  ·have hI : ¬ (k : Int) < (n : Int) := by omega
   have hkn : k = n := by omega
   subst hkn
   have htk : ls.take k = ls := List.take_of_length_le (by have := Hn.out; omega)
   have hri : ∀ x ∈ ls, x.l.all okI = true := by have := Hz.out; rw [htk] at this; exact this
   have hrl : rightL ls = true := by unfold rightL; rw [List.all_eq_true]; exact hri
   rw [hrl, if_pos rfl] at HJV
   have Hri := hide hri
   clear htk Hz hri hrl hk
   go_wp2_with fail
   rcases HG.out with ⟨rfl, rfl⟩ | ⟨rfl, rfl⟩ | ⟨rfl, rfl⟩ | ⟨rfl, rfl⟩ | ⟨rfl, rfl⟩ | ⟨rfl, rfl⟩ | ⟨rfl, rfl⟩
   ·clear HG
    rw [show knV [116, 114, 117, 101] k = (decide (0 ≤ k) && decide (k ≤ 0)) by exact knV_0 (by decide)] at HJV
    refine (rarity_true _).mono ?_
    rintro e w4 ⟨rfl, rfl⟩
    by_cases hkv : 0 ≤ k ∧ k ≤ 0
    ·have HJ : Hid (JV = (fun _ => ([⟨4, bN true, ⟨#[]⟩, 0⟩], 0)) ls) := by show _ = _; rw [HJV.out, if_pos (by simp; omega)]
     have q1 : ¬ (k : Int) < 0 := by omega
     have q2 : ¬ (0 : Int) < (k : Int) := by omega
     clear HJV
     have hk0 : k = 0 := by omega
     subst hk0
     clear hkv
     have HA9 : Hid (JV = ([⟨4, bN true, ⟨#[]⟩, 0⟩], 0)) := by show _ = _; rw [HJ.out]; skip
     go_wp2_with fail
     refine (rtruth_own true _).mono ?_
     rintro e w9 ⟨v9, rfl, ho9, hb9⟩
     have Ho9 := hide (ho9.mono hB.size)
     have hB9 := chain0 hB hb9
     clear ho9 hb9 hB
     go_wp2
     go_ret2
     exact ⟨v9, by rw [HA9.out]; rfl, by rw [HA9.out]; exact Ho9.out, hB9⟩
    ·have HA : Hid (JV = ([], 241)) := by show _ = _; rw [HJV.out, if_neg (by simp; omega)]
     clear HJV
     have q1 : ¬ (k : Int) < 0 := by omega
     have q2 : (0 : Int) < (k : Int) := by omega
     clear hkv
     go_wp2
     go_ret2
     exact ⟨.slice none 0 0, by rw [HA.out]; rfl, by rw [HA.out]; exact OwI.nil _ _, hB⟩
   ·clear HG
    rw [show knV [102, 97, 108, 115, 101] k = (decide (0 ≤ k) && decide (k ≤ 0)) by exact knV_0 (by decide)] at HJV
    refine (rarity_false _).mono ?_
    rintro e w4 ⟨rfl, rfl⟩
    by_cases hkv : 0 ≤ k ∧ k ≤ 0
    ·have HJ : Hid (JV = (fun _ => ([⟨4, bN false, ⟨#[]⟩, 0⟩], 0)) ls) := by show _ = _; rw [HJV.out, if_pos (by simp; omega)]
     have q1 : ¬ (k : Int) < 0 := by omega
     have q2 : ¬ (0 : Int) < (k : Int) := by omega
     clear HJV
     have hk0 : k = 0 := by omega
     subst hk0
     clear hkv
     have HA9 : Hid (JV = ([⟨4, bN false, ⟨#[]⟩, 0⟩], 0)) := by show _ = _; rw [HJ.out]; skip
     go_wp2_with fail
     refine (rtruth_own false _).mono ?_
     rintro e w9 ⟨v9, rfl, ho9, hb9⟩
     have Ho9 := hide (ho9.mono hB.size)
     have hB9 := chain0 hB hb9
     clear ho9 hb9 hB
     go_wp2
     go_ret2
     exact ⟨v9, by rw [HA9.out]; rfl, by rw [HA9.out]; exact Ho9.out, hB9⟩
    ·have HA : Hid (JV = ([], 241)) := by show _ = _; rw [HJV.out, if_neg (by simp; omega)]
     clear HJV
     have q1 : ¬ (k : Int) < 0 := by omega
     have q2 : (0 : Int) < (k : Int) := by omega
     clear hkv
     go_wp2
     go_ret2
     exact ⟨.slice none 0 0, by rw [HA.out]; rfl, by rw [HA.out]; exact OwI.nil _ _, hB⟩
   ·clear HG
    rw [show knV [99, 111, 117, 110, 116] k = (decide (1 ≤ k) && decide (k ≤ 1)) by exact knV_1 (by decide) (by decide)] at HJV
    refine (rarity_count _).mono ?_
    rintro e w4 ⟨rfl, rfl⟩
    by_cases hkv : 1 ≤ k ∧ k ≤ 1
    ·have HJ : Hid (JV = (one1 fCount) ls) := by show _ = _; rw [HJV.out, if_pos (by simp; omega)]
     have q1 : ¬ (k : Int) < 1 := by omega
     have q2 : ¬ (1 : Int) < (k : Int) := by omega
     clear HJV
     have hk1 : k = 1 := by omega
     subst hk1
     obtain ⟨la, rfl⟩ := List.length_eq_one_iff.1 Hn.out.symm
     obtain ⟨b0, off0, e0, hcz⟩ := (Hr.out.keep hB).cellAt 0 la.v rfl
     subst e0
     rw [Nat.add_zero] at hcz
     have hix0 := ix_rowA b0 off0 1 c (by decide)
     have Hla := hide (Hok.out la (by simp))
     have HlR := hide (HR.out la (by simp))
     have HlS := hide (Hsz.out la (by simp))
     have HlL := hide (HL.out la (by simp))
     have Hlr := hide (Hri.out la (by simp))
     obtain ⟨aa, al, ac⟩ := la
     obtain ⟨q, hq⟩ : ∃ q, q = al.length := ⟨_, rfl⟩
     have hc0 : wr.cell? ⟨b0, off0, none⟩ = some (.slice aa q ac) := by rw [hq]; exact hcz
     clear hcz
     have Hq := hide hq
     have HlT : Hid (∀ y ∈ al, y.kind = 4 → y.text = ⟨#[]⟩) := fun y hy h4 => ok_kind4 (List.all_eq_true.1 Hlr.out y hy) h4
     clear hq hkv
     have Hla2 := hide (show OkA wr ⟨aa, al, ac⟩ from ⟨Hla.out.1.keep hB, Hla.out.2⟩)
     have HA9 : Hid (JV = ([⟨2, (q : Int), ⟨#[]⟩, 0⟩], 0)) := by show _ = _; rw [HJ.out]; show fCount al = _; unfold fCount; rw [Hq.out]
     go_wp2_with fail
     refine (rwhole_own (q : Int) _).mono ?_
     rintro e w9 ⟨v9, rfl, ho9, hb9⟩
     have Ho9 := hide (ho9.mono hB.size)
     have hB9 := chain0 hB hb9
     clear ho9 hb9 hB
     go_wp2
     go_ret2
     exact ⟨v9, by rw [HA9.out]; rfl, by rw [HA9.out]; exact Ho9.out, hB9⟩
    ·have HA : Hid (JV = ([], 241)) := by show _ = _; rw [HJV.out, if_neg (by simp; omega)]
     clear HJV
     by_cases hc : k < 1
     ·have q1 : (k : Int) < 1 := by omega
      clear hkv hc
      go_wp2
      go_ret2
      exact ⟨.slice none 0 0, by rw [HA.out]; rfl, by rw [HA.out]; exact OwI.nil _ _, hB⟩
     ·have q1 : ¬ (k : Int) < 1 := by omega
      have q2 : (1 : Int) < (k : Int) := by omega
      clear hkv hc
      go_wp2
      go_ret2
      exact ⟨.slice none 0 0, by rw [HA.out]; rfl, by rw [HA.out]; exact OwI.nil _ _, hB⟩
   ·clear HG
    rw [show knV [101, 109, 112, 116, 121] k = (decide (1 ≤ k) && decide (k ≤ 1)) by exact knV_1 (by decide) (by decide)] at HJV
    refine (rarity_empty _).mono ?_
    rintro e w4 ⟨rfl, rfl⟩
    by_cases hkv : 1 ≤ k ∧ k ≤ 1
    ·have HJ : Hid (JV = (one1 fEmpty) ls) := by show _ = _; rw [HJV.out, if_pos (by simp; omega)]
     have q1 : ¬ (k : Int) < 1 := by omega
     have q2 : ¬ (1 : Int) < (k : Int) := by omega
     clear HJV
     have hk1 : k = 1 := by omega
     subst hk1
     obtain ⟨la, rfl⟩ := List.length_eq_one_iff.1 Hn.out.symm
     obtain ⟨b0, off0, e0, hcz⟩ := (Hr.out.keep hB).cellAt 0 la.v rfl
     subst e0
     rw [Nat.add_zero] at hcz
     have hix0 := ix_rowA b0 off0 1 c (by decide)
     have Hla := hide (Hok.out la (by simp))
     have HlR := hide (HR.out la (by simp))
     have HlS := hide (Hsz.out la (by simp))
     have HlL := hide (HL.out la (by simp))
     have Hlr := hide (Hri.out la (by simp))
     obtain ⟨aa, al, ac⟩ := la
     obtain ⟨q, hq⟩ : ∃ q, q = al.length := ⟨_, rfl⟩
     have hc0 : wr.cell? ⟨b0, off0, none⟩ = some (.slice aa q ac) := by rw [hq]; exact hcz
     clear hcz
     have Hq := hide hq
     have HlT : Hid (∀ y ∈ al, y.kind = 4 → y.text = ⟨#[]⟩) := fun y hy h4 => ok_kind4 (List.all_eq_true.1 Hlr.out y hy) h4
     clear hq hkv
     have Hla2 := hide (show OkA wr ⟨aa, al, ac⟩ from ⟨Hla.out.1.keep hB, Hla.out.2⟩)
     by_cases hz : q = 0
     ·have hz1 : (q : Int) = 0 := by omega
      have hz2 : ((q : Int) == 0) = true := by simpa using hz1
      have HA9 : Hid (JV = ([⟨4, bN true, ⟨#[]⟩, 0⟩], 0)) := by show _ = _; rw [HJ.out]; show fEmpty al = _; unfold fEmpty; rw [← Hq.out, decide_eq_true hz] <;> rfl
      have Hzz := hide hz1
      clear hz hz1
      go_wp2_with fail
      refine (rtruth_own true _).mono ?_
      rintro e w9 ⟨v9, rfl, ho9, hb9⟩
      have Ho9 := hide (ho9.mono hB.size)
      have hB9 := chain0 hB hb9
      clear ho9 hb9 hB
      go_wp2
      go_ret2
      exact ⟨v9, by rw [HA9.out]; rfl, by rw [HA9.out]; exact Ho9.out, hB9⟩
     ·have hz1 : ¬ (q : Int) = 0 := by omega
      have hz2 : ((q : Int) == 0) = false := by simpa using hz1
      have HA9 : Hid (JV = ([⟨4, bN false, ⟨#[]⟩, 0⟩], 0)) := by show _ = _; rw [HJ.out]; show fEmpty al = _; unfold fEmpty; rw [← Hq.out, decide_eq_false hz] <;> rfl
      clear hz
      go_wp2_with fail
      refine (rtruth_own false _).mono ?_
      rintro e w9 ⟨v9, rfl, ho9, hb9⟩
      have Ho9 := hide (ho9.mono hB.size)
      have hB9 := chain0 hB hb9
      clear ho9 hb9 hB
      go_wp2
      go_ret2
      exact ⟨v9, by rw [HA9.out]; rfl, by rw [HA9.out]; exact Ho9.out, hB9⟩
    ·have HA : Hid (JV = ([], 241)) := by show _ = _; rw [HJV.out, if_neg (by simp; omega)]
     clear HJV
     by_cases hc : k < 1
     ·have q1 : (k : Int) < 1 := by omega
      clear hkv hc
      go_wp2
      go_ret2
      exact ⟨.slice none 0 0, by rw [HA.out]; rfl, by rw [HA.out]; exact OwI.nil _ _, hB⟩
     ·have q1 : ¬ (k : Int) < 1 := by omega
      have q2 : (1 : Int) < (k : Int) := by omega
      clear hkv hc
      go_wp2
      go_ret2
      exact ⟨.slice none 0 0, by rw [HA.out]; rfl, by rw [HA.out]; exact OwI.nil _ _, hB⟩
   ·clear HG
    rw [show knV [101, 120, 105, 115, 116, 115] k = (decide (1 ≤ k) && decide (k ≤ 1)) by exact knV_1 (by decide) (by decide)] at HJV
    refine (rarity_exists _).mono ?_
    rintro e w4 ⟨rfl, rfl⟩
    by_cases hkv : 1 ≤ k ∧ k ≤ 1
    ·have HJ : Hid (JV = (one1 fExists) ls) := by show _ = _; rw [HJV.out, if_pos (by simp; omega)]
     have q1 : ¬ (k : Int) < 1 := by omega
     have q2 : ¬ (1 : Int) < (k : Int) := by omega
     clear HJV
     have hk1 : k = 1 := by omega
     subst hk1
     obtain ⟨la, rfl⟩ := List.length_eq_one_iff.1 Hn.out.symm
     obtain ⟨b0, off0, e0, hcz⟩ := (Hr.out.keep hB).cellAt 0 la.v rfl
     subst e0
     rw [Nat.add_zero] at hcz
     have hix0 := ix_rowA b0 off0 1 c (by decide)
     have Hla := hide (Hok.out la (by simp))
     have HlR := hide (HR.out la (by simp))
     have HlS := hide (Hsz.out la (by simp))
     have HlL := hide (HL.out la (by simp))
     have Hlr := hide (Hri.out la (by simp))
     obtain ⟨aa, al, ac⟩ := la
     obtain ⟨q, hq⟩ : ∃ q, q = al.length := ⟨_, rfl⟩
     have hc0 : wr.cell? ⟨b0, off0, none⟩ = some (.slice aa q ac) := by rw [hq]; exact hcz
     clear hcz
     have Hq := hide hq
     have HlT : Hid (∀ y ∈ al, y.kind = 4 → y.text = ⟨#[]⟩) := fun y hy h4 => ok_kind4 (List.all_eq_true.1 Hlr.out y hy) h4
     clear hq hkv
     have Hla2 := hide (show OkA wr ⟨aa, al, ac⟩ from ⟨Hla.out.1.keep hB, Hla.out.2⟩)
     by_cases hz : q = 0
     ·have hz1 : (q : Int) = 0 := by omega
      have hz2 : ((q : Int) == 0) = true := by simpa using hz1
      have HA9 : Hid (JV = ([⟨4, bN false, ⟨#[]⟩, 0⟩], 0)) := by show _ = _; rw [HJ.out]; show fExists al = _; unfold fExists; rw [← Hq.out, decide_eq_true hz] <;> rfl
      have Hzz := hide hz1
      clear hz hz1
      go_wp2_with fail
      refine (rtruth_own false _).mono ?_
      rintro e w9 ⟨v9, rfl, ho9, hb9⟩
      have Ho9 := hide (ho9.mono hB.size)
      have hB9 := chain0 hB hb9
      clear ho9 hb9 hB
      go_wp2
      go_ret2
      exact ⟨v9, by rw [HA9.out]; rfl, by rw [HA9.out]; exact Ho9.out, hB9⟩
     ·have hz1 : ¬ (q : Int) = 0 := by omega
      have hz2 : ((q : Int) == 0) = false := by simpa using hz1
      have HA9 : Hid (JV = ([⟨4, bN true, ⟨#[]⟩, 0⟩], 0)) := by show _ = _; rw [HJ.out]; show fExists al = _; unfold fExists; rw [← Hq.out, decide_eq_false hz] <;> rfl
      clear hz
      go_wp2_with fail
      refine (rtruth_own true _).mono ?_
      rintro e w9 ⟨v9, rfl, ho9, hb9⟩
      have Ho9 := hide (ho9.mono hB.size)
      have hB9 := chain0 hB hb9
      clear ho9 hb9 hB
      go_wp2
      go_ret2
      exact ⟨v9, by rw [HA9.out]; rfl, by rw [HA9.out]; exact Ho9.out, hB9⟩
    ·have HA : Hid (JV = ([], 241)) := by show _ = _; rw [HJV.out, if_neg (by simp; omega)]
     clear HJV
     by_cases hc : k < 1
     ·have q1 : (k : Int) < 1 := by omega
      clear hkv hc
      go_wp2
      go_ret2
      exact ⟨.slice none 0 0, by rw [HA.out]; rfl, by rw [HA.out]; exact OwI.nil _ _, hB⟩
     ·have q1 : ¬ (k : Int) < 1 := by omega
      have q2 : (1 : Int) < (k : Int) := by omega
      clear hkv hc
      go_wp2
      go_ret2
      exact ⟨.slice none 0 0, by rw [HA.out]; rfl, by rw [HA.out]; exact OwI.nil _ _, hB⟩
   ·clear HG
    rw [show knV [110, 111, 116] k = (decide (1 ≤ k) && decide (k ≤ 1)) by exact knV_1 (by decide) (by decide)] at HJV
    refine (rarity_not _).mono ?_
    rintro e w4 ⟨rfl, rfl⟩
    by_cases hkv : 1 ≤ k ∧ k ≤ 1
    ·have HJ : Hid (JV = (one1 fNot) ls) := by show _ = _; rw [HJV.out, if_pos (by simp; omega)]
     have q1 : ¬ (k : Int) < 1 := by omega
     have q2 : ¬ (1 : Int) < (k : Int) := by omega
     clear HJV
     have hk1 : k = 1 := by omega
     subst hk1
     obtain ⟨la, rfl⟩ := List.length_eq_one_iff.1 Hn.out.symm
     obtain ⟨b0, off0, e0, hcz⟩ := (Hr.out.keep hB).cellAt 0 la.v rfl
     subst e0
     rw [Nat.add_zero] at hcz
     have hix0 := ix_rowA b0 off0 1 c (by decide)
     have Hla := hide (Hok.out la (by simp))
     have HlR := hide (HR.out la (by simp))
     have HlS := hide (Hsz.out la (by simp))
     have HlL := hide (HL.out la (by simp))
     have Hlr := hide (Hri.out la (by simp))
     obtain ⟨aa, al, ac⟩ := la
     obtain ⟨q, hq⟩ : ∃ q, q = al.length := ⟨_, rfl⟩
     have hc0 : wr.cell? ⟨b0, off0, none⟩ = some (.slice aa q ac) := by rw [hq]; exact hcz
     clear hcz
     have Hq := hide hq
     have HlT : Hid (∀ y ∈ al, y.kind = 4 → y.text = ⟨#[]⟩) := fun y hy h4 => ok_kind4 (List.all_eq_true.1 Hlr.out y hy) h4
     clear hq hkv
     have Hla2 := hide (show OkA wr ⟨aa, al, ac⟩ from ⟨Hla.out.1.keep hB, Hla.out.2⟩)
     have hcon := hide (rtruth_any aa q ac al wr Hla2.out Hq.out)
     have HF : Hid (JV = if (truthV al).2 = 0 then ([⟨4, bN (!(truthV al).1), ⟨#[]⟩, 0⟩], 0) else ([], (truthV al).2)) := by exact HJ.out.trans rfl
     generalize truthV al = tv at *
     obtain ⟨tb, te⟩ := tv
     dsimp only at hcon HF
     by_cases hz : te = 0
     ·subst hz
      rw [if_pos rfl] at HF
      go_wp2_with fail
      refine hcon.out.mono ?_
      rintro e w8 ⟨rfl, hb8⟩
      have hB8 := chain0 hB hb8
      clear hb8 hB hc0
      cases tb with
      | true =>
       have HA9 : Hid (JV = ([⟨4, bN false, ⟨#[]⟩, 0⟩], 0)) := by exact HF.out.trans rfl
       go_wp2_with fail
       refine (rtruth_own false _).mono ?_
       rintro e w9 ⟨v9, rfl, ho9, hb9⟩
       have Ho9 := hide (ho9.mono hB8.size)
       have hB9 := chain0 hB8 hb9
       clear ho9 hb9 hB8
       go_wp2
       go_ret2
       exact ⟨v9, by rw [HA9.out]; rfl, by rw [HA9.out]; exact Ho9.out, hB9⟩
      | false =>
       have HA9 : Hid (JV = ([⟨4, bN true, ⟨#[]⟩, 0⟩], 0)) := by exact HF.out.trans rfl
       go_wp2_with fail
       refine (rtruth_own true _).mono ?_
       rintro e w9 ⟨v9, rfl, ho9, hb9⟩
       have Ho9 := hide (ho9.mono hB8.size)
       have hB9 := chain0 hB8 hb9
       clear ho9 hb9 hB8
       go_wp2
       go_ret2
       exact ⟨v9, by rw [HA9.out]; rfl, by rw [HA9.out]; exact Ho9.out, hB9⟩
     ·have hz1 : (te != 0) = true := by simpa using hz
      rw [if_neg hz] at HF
      clear hz
      go_wp2_with fail
      refine hcon.out.mono ?_
      rintro e w8 ⟨rfl, hb8⟩
      have hB8 := chain0 hB hb8
      clear hb8 hB hc0
      go_wp2
      go_ret2
      exact ⟨.slice none 0 0, by rw [HF.out]; rfl, by rw [HF.out]; exact OwI.nil _ _, hB8⟩
    ·have HA : Hid (JV = ([], 241)) := by show _ = _; rw [HJV.out, if_neg (by simp; omega)]
     clear HJV
     by_cases hc : k < 1
     ·have q1 : (k : Int) < 1 := by omega
      clear hkv hc
      go_wp2
      go_ret2
      exact ⟨.slice none 0 0, by rw [HA.out]; rfl, by rw [HA.out]; exact OwI.nil _ _, hB⟩
     ·have q1 : ¬ (k : Int) < 1 := by omega
      have q2 : (1 : Int) < (k : Int) := by omega
      clear hkv hc
      go_wp2
      go_ret2
      exact ⟨.slice none 0 0, by rw [HA.out]; rfl, by rw [HA.out]; exact OwI.nil _ _, hB⟩
   ·clear HG
    rw [show knV [98, 111, 111, 108, 101, 97, 110] k = (decide (1 ≤ k) && decide (k ≤ 1)) by exact knV_1 (by decide) (by decide)] at HJV
    refine (rarity_boolean _).mono ?_
    rintro e w4 ⟨rfl, rfl⟩
    by_cases hkv : 1 ≤ k ∧ k ≤ 1
    ·have HJ : Hid (JV = (one1 fBoolean) ls) := by show _ = _; rw [HJV.out, if_pos (by simp; omega)]
     have q1 : ¬ (k : Int) < 1 := by omega
     have q2 : ¬ (1 : Int) < (k : Int) := by omega
     clear HJV
     have hk1 : k = 1 := by omega
     subst hk1
     obtain ⟨la, rfl⟩ := List.length_eq_one_iff.1 Hn.out.symm
     obtain ⟨b0, off0, e0, hcz⟩ := (Hr.out.keep hB).cellAt 0 la.v rfl
     subst e0
     rw [Nat.add_zero] at hcz
     have hix0 := ix_rowA b0 off0 1 c (by decide)
     have Hla := hide (Hok.out la (by simp))
     have HlR := hide (HR.out la (by simp))
     have HlS := hide (Hsz.out la (by simp))
     have HlL := hide (HL.out la (by simp))
     have Hlr := hide (Hri.out la (by simp))
     obtain ⟨aa, al, ac⟩ := la
     obtain ⟨q, hq⟩ : ∃ q, q = al.length := ⟨_, rfl⟩
     have hc0 : wr.cell? ⟨b0, off0, none⟩ = some (.slice aa q ac) := by rw [hq]; exact hcz
     clear hcz
     have Hq := hide hq
     have HlT : Hid (∀ y ∈ al, y.kind = 4 → y.text = ⟨#[]⟩) := fun y hy h4 => ok_kind4 (List.all_eq_true.1 Hlr.out y hy) h4
     clear hq hkv
     have Hla2 := hide (show OkA wr ⟨aa, al, ac⟩ from ⟨Hla.out.1.keep hB, Hla.out.2⟩)
     have hcon := hide (rtruth_any aa q ac al wr Hla2.out Hq.out)
     have HF : Hid (JV = if (truthV al).2 = 0 then ([⟨4, bN ((truthV al).1), ⟨#[]⟩, 0⟩], 0) else ([], (truthV al).2)) := by exact HJ.out.trans rfl
     generalize truthV al = tv at *
     obtain ⟨tb, te⟩ := tv
     dsimp only at hcon HF
     by_cases hz : te = 0
     ·subst hz
      rw [if_pos rfl] at HF
      go_wp2_with fail
      refine hcon.out.mono ?_
      rintro e w8 ⟨rfl, hb8⟩
      have hB8 := chain0 hB hb8
      clear hb8 hB hc0
      cases tb with
      | true =>
       have HA9 : Hid (JV = ([⟨4, bN true, ⟨#[]⟩, 0⟩], 0)) := by exact HF.out.trans rfl
       go_wp2_with fail
       refine (rtruth_own true _).mono ?_
       rintro e w9 ⟨v9, rfl, ho9, hb9⟩
       have Ho9 := hide (ho9.mono hB8.size)
       have hB9 := chain0 hB8 hb9
       clear ho9 hb9 hB8
       go_wp2
       go_ret2
       exact ⟨v9, by rw [HA9.out]; rfl, by rw [HA9.out]; exact Ho9.out, hB9⟩
      | false =>
       have HA9 : Hid (JV = ([⟨4, bN false, ⟨#[]⟩, 0⟩], 0)) := by exact HF.out.trans rfl
       go_wp2_with fail
       refine (rtruth_own false _).mono ?_
       rintro e w9 ⟨v9, rfl, ho9, hb9⟩
       have Ho9 := hide (ho9.mono hB8.size)
       have hB9 := chain0 hB8 hb9
       clear ho9 hb9 hB8
       go_wp2
       go_ret2
       exact ⟨v9, by rw [HA9.out]; rfl, by rw [HA9.out]; exact Ho9.out, hB9⟩
     ·have hz1 : (te != 0) = true := by simpa using hz
      rw [if_neg hz] at HF
      clear hz
      go_wp2_with fail
      refine hcon.out.mono ?_
      rintro e w8 ⟨rfl, hb8⟩
      have hB8 := chain0 hB hb8
      clear hb8 hB hc0
      go_wp2
      go_ret2
      exact ⟨.slice none 0 0, by rw [HF.out]; rfl, by rw [HF.out]; exact OwI.nil _ _, hB8⟩
    ·have HA : Hid (JV = ([], 241)) := by show _ = _; rw [HJV.out, if_neg (by simp; omega)]
     clear HJV
     by_cases hc : k < 1
     ·have q1 : (k : Int) < 1 := by omega
      clear hkv hc
      go_wp2
      go_ret2
      exact ⟨.slice none 0 0, by rw [HA.out]; rfl, by rw [HA.out]; exact OwI.nil _ _, hB⟩
     ·have q1 : ¬ (k : Int) < 1 := by omega
      have q2 : (1 : Int) < (k : Int) := by omega
      clear hkv hc
      go_wp2
      go_ret2
      exact ⟨.slice none 0 0, by rw [HA.out]; rfl, by rw [HA.out]; exact OwI.nil _ _, hB⟩
end Go.Proofs.YtaieiogmolaebaaGreatDoor
