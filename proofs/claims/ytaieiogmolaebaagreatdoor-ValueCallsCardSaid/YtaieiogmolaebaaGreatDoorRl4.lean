/- The reference: Call (normalize-space, upper-case, lower-case, contains, starts-with, ends-with). -/
import Derived.Test.YtaieiogmolaebaaGreatDoorC35
import Derived.Test.YtaieiogmolaebaaGreatDoorRj
namespace Go.Proofs.YtaieiogmolaebaaGreatDoor
open Go.RowKit
set_option maxRecDepth 100000 in
set_option maxHeartbeats 16000000 in
theorem Rl4_any (nm : List UInt8) (body : List Lst → List It × Int) (hG : (nm = [110, 111, 114, 109, 97, 108, 105, 122, 101, 45, 115, 112, 97, 99, 101] ∧ body = fT fNorm) ∨ (nm = [117, 112, 112, 101, 114, 45, 99, 97, 115, 101] ∧ body = fT fUpper) ∨ (nm = [108, 111, 119, 101, 114, 45, 99, 97, 115, 101] ∧ body = fT fLower) ∨ (nm = [99, 111, 110, 116, 97, 105, 110, 115] ∧ body = fT fContains) ∨ (nm = [115, 116, 97, 114, 116, 115, 45, 119, 105, 116, 104] ∧ body = fT fStarts) ∨ (nm = [101, 110, 100, 115, 45, 119, 105, 116, 104] ∧ body = fT fEnds)) (p : Option Addr) (n c : Nat) (ls : List Lst) (w : World) (hr : Rd w p (ls.map Lst.v)) (hok : OkAs w ls) (hR : ∀ x ∈ ls, ∀ y ∈ x.l, R64 y.num) (hsz : ∀ x ∈ ls, ∀ y ∈ x.l, y.text.size ≤ 100000) (hL : ∀ x ∈ ls, x.l.length ≤ 1000000) (hn : n = ls.length) (hnm : n ≤ 1000) :
  Calls Tryz.prog 8 #[.string ⟨nm.toArray⟩, .slice p n c] w (Res w (cR nm body ls).1 (cR nm body ls).2) := by
 have Hr := hide hr
 have Hok := hide hok
 have HR := hide hR
 have Hsz := hide hsz
 have HL := hide hL
 have Hn := hide hn
 obtain ⟨JV, hJV⟩ : ∃ x, x = cR nm body ls := ⟨_, rfl⟩
 rw [← hJV]
 have HJV : Hid (JV = if rightL ls = true then (if knV nm n = true then body ls else ([], 241)) else ([], 2)) := by show _ = _; rw [hJV, hn]; rfl
 have HG := hide hG
 clear hr hok hR hsz hL hn hJV hG
 go_enter Tryz.func8, Tryz.ntmps8
 go_wp2_with fail
 go_loopw [6] (fun iv W => ∃ k : Nat, k ≤ n ∧ iv = .int .i64 k ∧ Hid (∀ x ∈ ls.take k, x.l.all okI = true) ∧ Below w.heap.size w W) (fun iv _ => n - (intOf iv).toNat)
 case atStart => exact ⟨0, Nat.zero_le _, rfl, hide (by simp), Below.refl _ _⟩
 case round =>
  obtain ⟨k, hk, rfl, Hz, hB⟩ := hrel
  by_cases hlt : k < n
  ·have hI : (k : Int) < (n : Int) := by omega
   obtain ⟨x, hx⟩ : ∃ x, ls[k]? = some x := ⟨_, List.getElem?_eq_getElem (by have := Hn.out; omega)⟩
   obtain ⟨b1, off1, e1, hcz⟩ := (Hr.out.keep hB).cellAt k x.v (by simp [hx])
   subst e1
   have hix := ix_row b1 off1 n c k hlt
   have Hx := hide hx
   have Hokx := hide (Hok.out x (List.mem_of_getElem? hx))
   have Hmx := hide (List.mem_of_getElem? hx)
   clear hx
   obtain ⟨xa, xl, xc⟩ := x
   obtain ⟨q, hq⟩ : ∃ q, q = xl.length := ⟨_, rfl⟩
   have hcx : wr.cell? ⟨b1, off1 + k, none⟩ = some (.slice xa q xc) := by rw [hq]; exact hcz
   clear hcz
   have Hq := hide hq
   clear hq
   have hrt := hide (rrights_any xa q xc xl wr ⟨Hokx.out.1.keep hB, Hokx.out.2⟩ Hq.out)
   rcases Bool.eq_false_or_eq_true (xl.all okI) with ha | ha
   ·rw [ha] at hrt
    have Hz2 : Hid (∀ x ∈ ls.take (k + 1), x.l.all okI = true) := by
     show ∀ x ∈ _, _
     intro x hx
     rw [List.take_add_one, Hx.out] at hx
     rcases List.mem_append.1 hx with hx | hx
     ·exact Hz.out x hx
     ·simp at hx; subst hx; exact ha
    clear ha Hz
    go_wp2_with fail
    refine hrt.out.mono ?_
    rintro e w4 ⟨rfl, hb4⟩
    have hB4 := chain0 hB hb4
    clear hb4 hB hcx hix
    go_wp2
    go_roundw
    case rel => exact ⟨k + 1, by omega, by simp, Hz2, hB4⟩
    case measure => simp [intOf]; omega
   ·rw [ha] at hrt
    have HA : Hid (JV = ([], 2)) := by
     show _ = _
     rw [HJV.out, if_neg]
     intro h
     unfold rightL at h
     rw [List.all_eq_true] at h
     have := h _ Hmx.out
     rw [ha] at this; cases this
    clear ha Hz
    go_wp2_with fail
    refine hrt.out.mono ?_
    rintro e w4 ⟨rfl, hb4⟩
    have hB4 := chain0 hB hb4
    clear hb4 hB hcx hix
    go_wp2
    go_ret2
    exact ⟨.slice none 0 0, by rw [HA.out]; rfl, by rw [HA.out]; exact OwI.nil _ _, hB4⟩
  ·have hI : ¬ (k : Int) < (n : Int) := by omega
   have hkn : k = n := by omega
   subst hkn
   have htk : ls.take k = ls := List.take_of_length_le (by have := Hn.out; omega)
   have hri : ∀ x ∈ ls, x.l.all okI = true := by have := Hz.out; rw [htk] at this; exact this
   have hrl : rightL ls = true := by unfold rightL; rw [List.all_eq_true]; exact hri
   rw [hrl, if_pos rfl] at HJV
   have Hri := hide hri
   clear htk Hz hri hrl hk
   go_wp2_with fail
   rcases HG.out with ⟨rfl, rfl⟩ | ⟨rfl, rfl⟩ | ⟨rfl, rfl⟩ | ⟨rfl, rfl⟩ | ⟨rfl, rfl⟩ | ⟨rfl, rfl⟩
   ·clear HG
    rw [show knV [110, 111, 114, 109, 97, 108, 105, 122, 101, 45, 115, 112, 97, 99, 101] k = (decide (1 ≤ k) && decide (k ≤ 1)) by exact knV_1 (by decide) (by decide)] at HJV
    refine (rarity_normalize_space _).mono ?_
    rintro e w4 ⟨rfl, rfl⟩
    by_cases hkv : 1 ≤ k ∧ k ≤ 1
    ·have HJ : Hid (JV = (fT fNorm) ls) := by show _ = _; rw [HJV.out, if_pos (by simp; omega)]
     have q1 : ¬ (k : Int) < 1 := by omega
     have q2 : ¬ (1 : Int) < (k : Int) := by omega
     clear HJV
     have Hkv := hide hkv
     clear hkv
     have Hokw := hide (show OkAs wr ls from OkAs.keep Hok.out hB)
     have HA9 : Hid (JV = fT fNorm ls) := by exact HJ.out.trans rfl
     obtain ⟨J1, J2⟩ := JV
     have hcon := hide (rtexG_any _ _ p k c ls wr (Hr.out.keep hB) Hokw.out HR.out Hsz.out Hri.out Hn.out hnm (.inr (.inr (.inr (.inl ⟨rfl, rfl, (by have := Hkv.out; omega)⟩)))))
     rw [show fT fNorm ls = (J1, J2) from HA9.out.symm] at hcon
     clear HA9
     have HA9 : Hid (((J1, J2) : List It × Int) = (J1, J2)) := rfl
     go_wp2_with fail
     refine hcon.out.mono ?_
     rintro e w9 ⟨v9, rfl, ho9, hb9⟩
     have Ho9 := hide (ho9.mono hB.size)
     have hB9 := chain0 hB hb9
     clear ho9 hb9 hB HA9
     go_wp2
     go_ret2
     exact ⟨v9, rfl, Ho9.out, hB9⟩
    ·have HA : Hid (JV = ([], 241)) := by show _ = _; rw [HJV.out, if_neg (by simp; omega)]
     clear HJV
     by_cases hc : k < 1
     ·have q1 : (k : Int) < 1 := by omega
      clear hkv hc
      go_wp2
      go_ret2
      exact ⟨.slice none 0 0, by rw [HA.out]; rfl, by rw [HA.out]; exact OwI.nil _ _, hB⟩
     ·have q1 : ¬ (k : Int) < 1 := by omega
      have q2 : (1 : Int) < (k : Int) := by omega
      clear hkv hc
      go_wp2
      go_ret2
      exact ⟨.slice none 0 0, by rw [HA.out]; rfl, by rw [HA.out]; exact OwI.nil _ _, hB⟩
   ·clear HG
    rw [show knV [117, 112, 112, 101, 114, 45, 99, 97, 115, 101] k = (decide (1 ≤ k) && decide (k ≤ 1)) by exact knV_1 (by decide) (by decide)] at HJV
    refine (rarity_upper_case _).mono ?_
    rintro e w4 ⟨rfl, rfl⟩
    by_cases hkv : 1 ≤ k ∧ k ≤ 1
    ·have HJ : Hid (JV = (fT fUpper) ls) := by show _ = _; rw [HJV.out, if_pos (by simp; omega)]
     have q1 : ¬ (k : Int) < 1 := by omega
     have q2 : ¬ (1 : Int) < (k : Int) := by omega
     clear HJV
     have Hkv := hide hkv
     clear hkv
     have Hokw := hide (show OkAs wr ls from OkAs.keep Hok.out hB)
     have HA9 : Hid (JV = fT fUpper ls) := by exact HJ.out.trans rfl
     obtain ⟨J1, J2⟩ := JV
     have hcon := hide (rtexG_any _ _ p k c ls wr (Hr.out.keep hB) Hokw.out HR.out Hsz.out Hri.out Hn.out hnm (.inr (.inr (.inr (.inr (.inl ⟨rfl, rfl, (by have := Hkv.out; omega)⟩))))))
     rw [show fT fUpper ls = (J1, J2) from HA9.out.symm] at hcon
     clear HA9
     have HA9 : Hid (((J1, J2) : List It × Int) = (J1, J2)) := rfl
     go_wp2_with fail
     refine hcon.out.mono ?_
     rintro e w9 ⟨v9, rfl, ho9, hb9⟩
     have Ho9 := hide (ho9.mono hB.size)
     have hB9 := chain0 hB hb9
     clear ho9 hb9 hB HA9
     go_wp2
     go_ret2
     exact ⟨v9, rfl, Ho9.out, hB9⟩
    ·have HA : Hid (JV = ([], 241)) := by show _ = _; rw [HJV.out, if_neg (by simp; omega)]
     clear HJV
     by_cases hc : k < 1
     ·have q1 : (k : Int) < 1 := by omega
      clear hkv hc
      go_wp2
      go_ret2
      exact ⟨.slice none 0 0, by rw [HA.out]; rfl, by rw [HA.out]; exact OwI.nil _ _, hB⟩
     ·have q1 : ¬ (k : Int) < 1 := by omega
      have q2 : (1 : Int) < (k : Int) := by omega
      clear hkv hc
      go_wp2
      go_ret2
      exact ⟨.slice none 0 0, by rw [HA.out]; rfl, by rw [HA.out]; exact OwI.nil _ _, hB⟩
   ·clear HG
    rw [show knV [108, 111, 119, 101, 114, 45, 99, 97, 115, 101] k = (decide (1 ≤ k) && decide (k ≤ 1)) by exact knV_1 (by decide) (by decide)] at HJV
    refine (rarity_lower_case _).mono ?_
    rintro e w4 ⟨rfl, rfl⟩
    by_cases hkv : 1 ≤ k ∧ k ≤ 1
    ·have HJ : Hid (JV = (fT fLower) ls) := by show _ = _; rw [HJV.out, if_pos (by simp; omega)]
     have q1 : ¬ (k : Int) < 1 := by omega
     have q2 : ¬ (1 : Int) < (k : Int) := by omega
     clear HJV
     have Hkv := hide hkv
     clear hkv
     have Hokw := hide (show OkAs wr ls from OkAs.keep Hok.out hB)
     have HA9 : Hid (JV = fT fLower ls) := by exact HJ.out.trans rfl
     obtain ⟨J1, J2⟩ := JV
     have hcon := hide (rtexG_any _ _ p k c ls wr (Hr.out.keep hB) Hokw.out HR.out Hsz.out Hri.out Hn.out hnm (.inr (.inr (.inr (.inr (.inr (.inl ⟨rfl, rfl, (by have := Hkv.out; omega)⟩)))))))
     rw [show fT fLower ls = (J1, J2) from HA9.out.symm] at hcon
     clear HA9
     have HA9 : Hid (((J1, J2) : List It × Int) = (J1, J2)) := rfl
     go_wp2_with fail
     refine hcon.out.mono ?_
     rintro e w9 ⟨v9, rfl, ho9, hb9⟩
     have Ho9 := hide (ho9.mono hB.size)
     have hB9 := chain0 hB hb9
     clear ho9 hb9 hB HA9
     go_wp2
     go_ret2
     exact ⟨v9, rfl, Ho9.out, hB9⟩
    ·have HA : Hid (JV = ([], 241)) := by show _ = _; rw [HJV.out, if_neg (by simp; omega)]
     clear HJV
     by_cases hc : k < 1
     ·have q1 : (k : Int) < 1 := by omega
      clear hkv hc
      go_wp2
      go_ret2
      exact ⟨.slice none 0 0, by rw [HA.out]; rfl, by rw [HA.out]; exact OwI.nil _ _, hB⟩
     ·have q1 : ¬ (k : Int) < 1 := by omega
      have q2 : (1 : Int) < (k : Int) := by omega
      clear hkv hc
      go_wp2
      go_ret2
      exact ⟨.slice none 0 0, by rw [HA.out]; rfl, by rw [HA.out]; exact OwI.nil _ _, hB⟩
   ·clear HG
    rw [show knV [99, 111, 110, 116, 97, 105, 110, 115] k = (decide (2 ≤ k) && decide (k ≤ 2)) by exact knV_2 (by decide) (by decide) (by decide)] at HJV
    refine (rarity_contains _).mono ?_
    rintro e w4 ⟨rfl, rfl⟩
    by_cases hkv : 2 ≤ k ∧ k ≤ 2
    ·have HJ : Hid (JV = (fT fContains) ls) := by show _ = _; rw [HJV.out, if_pos (by simp; omega)]
     have q1 : ¬ (k : Int) < 2 := by omega
     have q2 : ¬ (2 : Int) < (k : Int) := by omega
     clear HJV
     have Hkv := hide hkv
     clear hkv
     have Hokw := hide (show OkAs wr ls from OkAs.keep Hok.out hB)
     have HA9 : Hid (JV = fT fContains ls) := by exact HJ.out.trans rfl
     obtain ⟨J1, J2⟩ := JV
     have hcon := hide (rtexG_any _ _ p k c ls wr (Hr.out.keep hB) Hokw.out HR.out Hsz.out Hri.out Hn.out hnm (.inr (.inr (.inr (.inr (.inr (.inr (.inl ⟨rfl, rfl, (by have := Hkv.out; omega)⟩))))))))
     rw [show fT fContains ls = (J1, J2) from HA9.out.symm] at hcon
     clear HA9
     have HA9 : Hid (((J1, J2) : List It × Int) = (J1, J2)) := rfl
     go_wp2_with fail
     refine hcon.out.mono ?_
     rintro e w9 ⟨v9, rfl, ho9, hb9⟩
     have Ho9 := hide (ho9.mono hB.size)
     have hB9 := chain0 hB hb9
     clear ho9 hb9 hB HA9
     go_wp2
     go_ret2
     exact ⟨v9, rfl, Ho9.out, hB9⟩
    ·have HA : Hid (JV = ([], 241)) := by show _ = _; rw [HJV.out, if_neg (by simp; omega)]
     clear HJV
     by_cases hc : k < 2
     ·have q1 : (k : Int) < 2 := by omega
      clear hkv hc
      go_wp2
      go_ret2
      exact ⟨.slice none 0 0, by rw [HA.out]; rfl, by rw [HA.out]; exact OwI.nil _ _, hB⟩
     ·have q1 : ¬ (k : Int) < 2 := by omega
      have q2 : (2 : Int) < (k : Int) := by omega
      clear hkv hc
      go_wp2
      go_ret2
      exact ⟨.slice none 0 0, by rw [HA.out]; rfl, by rw [HA.out]; exact OwI.nil _ _, hB⟩
   ·clear HG
    rw [show knV [115, 116, 97, 114, 116, 115, 45, 119, 105, 116, 104] k = (decide (2 ≤ k) && decide (k ≤ 2)) by exact knV_2 (by decide) (by decide) (by decide)] at HJV
    refine (rarity_starts_with _).mono ?_
    rintro e w4 ⟨rfl, rfl⟩
    by_cases hkv : 2 ≤ k ∧ k ≤ 2
    ·have HJ : Hid (JV = (fT fStarts) ls) := by show _ = _; rw [HJV.out, if_pos (by simp; omega)]
     have q1 : ¬ (k : Int) < 2 := by omega
     have q2 : ¬ (2 : Int) < (k : Int) := by omega
     clear HJV
     have Hkv := hide hkv
     clear hkv
     have Hokw := hide (show OkAs wr ls from OkAs.keep Hok.out hB)
     have HA9 : Hid (JV = fT fStarts ls) := by exact HJ.out.trans rfl
     obtain ⟨J1, J2⟩ := JV
     have hcon := hide (rtexG_any _ _ p k c ls wr (Hr.out.keep hB) Hokw.out HR.out Hsz.out Hri.out Hn.out hnm (.inr (.inr (.inr (.inr (.inr (.inr (.inr (.inl ⟨rfl, rfl, (by have := Hkv.out; omega)⟩)))))))))
     rw [show fT fStarts ls = (J1, J2) from HA9.out.symm] at hcon
     clear HA9
     have HA9 : Hid (((J1, J2) : List It × Int) = (J1, J2)) := rfl
     go_wp2_with fail
     refine hcon.out.mono ?_
     rintro e w9 ⟨v9, rfl, ho9, hb9⟩
     have Ho9 := hide (ho9.mono hB.size)
     have hB9 := chain0 hB hb9
     clear ho9 hb9 hB HA9
     go_wp2
     go_ret2
     exact ⟨v9, rfl, Ho9.out, hB9⟩
    ·have HA : Hid (JV = ([], 241)) := by show _ = _; rw [HJV.out, if_neg (by simp; omega)]
     clear HJV
     by_cases hc : k < 2
     ·have q1 : (k : Int) < 2 := by omega
      clear hkv hc
      go_wp2
      go_ret2
      exact ⟨.slice none 0 0, by rw [HA.out]; rfl, by rw [HA.out]; exact OwI.nil _ _, hB⟩
     ·have q1 : ¬ (k : Int) < 2 := by omega
      have q2 : (2 : Int) < (k : Int) := by omega
      clear hkv hc
      go_wp2
      go_ret2
      exact ⟨.slice none 0 0, by rw [HA.out]; rfl, by rw [HA.out]; exact OwI.nil _ _, hB⟩
   ·clear HG
    rw [show knV [101, 110, 100, 115, 45, 119, 105, 116, 104] k = (decide (2 ≤ k) && decide (k ≤ 2)) by exact knV_2 (by decide) (by decide) (by decide)] at HJV
    refine (rarity_ends_with _).mono ?_
    rintro e w4 ⟨rfl, rfl⟩
    by_cases hkv : 2 ≤ k ∧ k ≤ 2
    ·have HJ : Hid (JV = (fT fEnds) ls) := by show _ = _; rw [HJV.out, if_pos (by simp; omega)]
     have q1 : ¬ (k : Int) < 2 := by omega
     have q2 : ¬ (2 : Int) < (k : Int) := by omega
     clear HJV
     have Hkv := hide hkv
     clear hkv
     have Hokw := hide (show OkAs wr ls from OkAs.keep Hok.out hB)
     have HA9 : Hid (JV = fT fEnds ls) := by exact HJ.out.trans rfl
     obtain ⟨J1, J2⟩ := JV
     have hcon := hide (rtexG_any _ _ p k c ls wr (Hr.out.keep hB) Hokw.out HR.out Hsz.out Hri.out Hn.out hnm (.inr (.inr (.inr (.inr (.inr (.inr (.inr (.inr ⟨rfl, rfl, (by have := Hkv.out; omega)⟩)))))))))
     rw [show fT fEnds ls = (J1, J2) from HA9.out.symm] at hcon
     clear HA9
     have HA9 : Hid (((J1, J2) : List It × Int) = (J1, J2)) := rfl
     go_wp2_with fail
     refine hcon.out.mono ?_
     rintro e w9 ⟨v9, rfl, ho9, hb9⟩
     have Ho9 := hide (ho9.mono hB.size)
     have hB9 := chain0 hB hb9
     clear ho9 hb9 hB HA9
     go_wp2
     go_ret2
     exact ⟨v9, rfl, Ho9.out, hB9⟩
    ·have HA : Hid (JV = ([], 241)) := by show _ = _; rw [HJV.out, if_neg (by simp; omega)]
     clear HJV
     by_cases hc : k < 2
     ·have q1 : (k : Int) < 2 := by omega
      clear hkv hc
      go_wp2
      go_ret2
      exact ⟨.slice none 0 0, by rw [HA.out]; rfl, by rw [HA.out]; exact OwI.nil _ _, hB⟩
     ·have q1 : ¬ (k : Int) < 2 := by omega
      have q2 : (2 : Int) < (k : Int) := by omega
      clear hkv hc
      go_wp2
      go_ret2
      exact ⟨.slice none 0 0, by rw [HA.out]; rfl, by rw [HA.out]; exact OwI.nil _ _, hB⟩
end Go.Proofs.YtaieiogmolaebaaGreatDoor
