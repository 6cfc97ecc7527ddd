/- The reference: Call (string-join, substring, string, string-length, concat). -/
import Derived.Test.YtaieiogmolaebaaGreatDoorC35
import Derived.Test.YtaieiogmolaebaaGreatDoorRe
import Derived.Test.YtaieiogmolaebaaGreatDoorRi
import Derived.Test.YtaieiogmolaebaaGreatDoorRj
namespace Go.Proofs.YtaieiogmolaebaaGreatDoor
open Go.RowKit
set_option maxRecDepth 100000 in
set_option maxHeartbeats 16000000 in
theorem Rl3_any (nm : List UInt8) (body : List Lst → List It × Int) (hG : (nm = [115, 116, 114, 105, 110, 103, 45, 106, 111, 105, 110] ∧ body = joinV) ∨ (nm = [115, 117, 98, 115, 116, 114, 105, 110, 103] ∧ body = subV) ∨ (nm = [115, 116, 114, 105, 110, 103] ∧ body = fT fString) ∨ (nm = [115, 116, 114, 105, 110, 103, 45, 108, 101, 110, 103, 116, 104] ∧ body = fT fLength) ∨ (nm = [99, 111, 110, 99, 97, 116] ∧ body = fT fConcat)) (p : Option Addr) (n c : Nat) (ls : List Lst) (w : World) (hr : Rd w p (ls.map Lst.v)) (hok : OkAs w ls) (hR : ∀ x ∈ ls, ∀ y ∈ x.l, R64 y.num) (hsz : ∀ x ∈ ls, ∀ y ∈ x.l, y.text.size ≤ 100000) (hL : ∀ x ∈ ls, x.l.length ≤ 1000000) (hn : n = ls.length) (hnm : n ≤ 1000) :
  Calls Tryz.prog 8 #[.string ⟨nm.toArray⟩, .slice p n c] w (Res w (cR nm body ls).1 (cR nm body ls).2) := by
 have Hr := hide hr
 have Hok := hide hok
 have HR := hide hR
 have Hsz := hide hsz
 have HL := hide hL
 have Hn := hide hn
 obtain ⟨JV, hJV⟩ : ∃ x, x = cR nm body ls := ⟨_, rfl⟩
 rw [← hJV]
 have HJV : Hid (JV = if rightL ls = true then (if knV nm n = true then body ls else ([], 241)) else ([], 2)) := by show _ = _; rw [hJV, hn]; rfl
 have HG := hide hG
 clear hr hok hR hsz hL hn hJV hG
 go_enter Tryz.func8, Tryz.ntmps8
 go_wp2_with fail
 go_loopw [6] (fun iv W => ∃ k : Nat, k ≤ n ∧ iv = .int .i64 k ∧ Hid (∀ x ∈ ls.take k, x.l.all okI = true) ∧ Below w.heap.size w W) (fun iv _ => n - (intOf iv).toNat)
 case atStart => exact ⟨0, Nat.zero_le _, rfl, hide (by simp), Below.refl _ _⟩
 case round =>
  obtain ⟨k, hk, rfl, Hz, hB⟩ := hrel
  by_cases hlt : k < n
  ·have hI : (k : Int) < (n : Int) := by omega
   obtain ⟨x, hx⟩ : ∃ x, ls[k]? = some x := ⟨_, List.getElem?_eq_getElem (by have := Hn.out; omega)⟩
   obtain ⟨b1, off1, e1, hcz⟩ := (Hr.out.keep hB).cellAt k x.v (by simp [hx])
   subst e1
   have hix := ix_row b1 off1 n c k hlt
   have Hx := hide hx
   have Hokx := hide (Hok.out x (List.mem_of_getElem? hx))
   have Hmx := hide (List.mem_of_getElem? hx)
   clear hx
   obtain ⟨xa, xl, xc⟩ := x
   obtain ⟨q, hq⟩ : ∃ q, q = xl.length := ⟨_, rfl⟩
   have hcx : wr.cell? ⟨b1, off1 + k, none⟩ = some (.slice xa q xc) := by rw [hq]; exact hcz
   clear hcz
   have Hq := hide hq
   clear hq
   have hrt := hide (rrights_any xa q xc xl wr ⟨Hokx.out.1.keep hB, Hokx.out.2⟩ Hq.out)
   rcases Bool.eq_false_or_eq_true (xl.all okI) with ha | ha
   ·rw [ha] at hrt
    have Hz2 : Hid (∀ x ∈ ls.take (k + 1), x.l.all okI = true) := by
     show ∀ x ∈ _, _
     intro x hx
     rw [List.take_add_one, Hx.out] at hx
     rcases List.mem_append.1 hx with hx | hx
     ·exact Hz.out x hx
     ·simp at hx; subst hx; exact ha
    clear ha Hz
    go_wp2_with fail
    refine hrt.out.mono ?_
    rintro e w4 ⟨rfl, hb4⟩
    have hB4 := chain0 hB hb4
    clear hb4 hB hcx hix
    go_wp2
    go_roundw
    case rel => exact ⟨k + 1, by omega, by simp, Hz2, hB4⟩
    case measure => simp [intOf]; omega
   ·rw [ha] at hrt
    have HA : Hid (JV = ([], 2)) := by
     show _ = _
     rw [HJV.out, if_neg]
     intro h
     unfold rightL at h
     rw [List.all_eq_true] at h
     have := h _ Hmx.out
     rw [ha] at this; cases this
    clear ha Hz
    go_wp2_with fail
    refine hrt.out.mono ?_
    rintro e w4 ⟨rfl, hb4⟩
    have hB4 := chain0 hB hb4
    clear hb4 hB hcx hix
    go_wp2
    go_ret2
    exact ⟨.slice none 0 0, by rw [HA.out]; rfl, by rw [HA.out]; exact OwI.nil _ _, hB4⟩
  ·have hI : ¬ (k : Int) < (n : Int) := by omega
   have hkn : k = n := by omega
   subst hkn
   have htk : ls.take k = ls := List.take_of_length_le (by have := Hn.out; omega)
   have hri : ∀ x ∈ ls, x.l.all okI = true := by have := Hz.out; rw [htk] at this; exact this
   have hrl : rightL ls = true := by unfold rightL; rw [List.all_eq_true]; exact hri
   rw [hrl, if_pos rfl] at HJV
   have Hri := hide hri
   clear htk Hz hri hrl hk
   go_wp2_with fail
   rcases HG.out with ⟨rfl, rfl⟩ | ⟨rfl, rfl⟩ | ⟨rfl, rfl⟩ | ⟨rfl, rfl⟩ | ⟨rfl, rfl⟩
   ·clear HG
    rw [show knV [115, 116, 114, 105, 110, 103, 45, 106, 111, 105, 110] k = (decide (1 ≤ k) && decide (k ≤ 2)) by exact knV_3 (by decide) (by decide) (by decide) (by decide)] at HJV
    refine (rarity_string_join _).mono ?_
    rintro e w4 ⟨rfl, rfl⟩
    by_cases hkv : 1 ≤ k ∧ k ≤ 2
    ·have HJ : Hid (JV = (joinV) ls) := by show _ = _; rw [HJV.out, if_pos (by simp; omega)]
     have q1 : ¬ (k : Int) < 1 := by omega
     have q2 : ¬ (2 : Int) < (k : Int) := by omega
     clear HJV
     have Hkv := hide hkv
     rcases (show k = 1 ∨ k = 2 by omega) with hk1 | hk2
     ·subst hk1
      obtain ⟨la, rfl⟩ := List.length_eq_one_iff.1 Hn.out.symm
      obtain ⟨b0, off0, e0, hcz⟩ := (Hr.out.keep hB).cellAt 0 la.v rfl
      subst e0
      rw [Nat.add_zero] at hcz
      have hix0 := ix_rowA b0 off0 1 c (by decide)
      have Hla := hide (Hok.out la (by simp))
      have HlR := hide (HR.out la (by simp))
      have HlS := hide (Hsz.out la (by simp))
      have HlL := hide (HL.out la (by simp))
      obtain ⟨aa, al, ac⟩ := la
      obtain ⟨q, hq⟩ : ∃ q, q = al.length := ⟨_, rfl⟩
      have hc0 : wr.cell? ⟨b0, off0, none⟩ = some (.slice aa q ac) := by rw [hq]; exact hcz
      clear hcz
      have Hq := hide hq
      clear hq hkv
      have HA9 : Hid (JV = joinV [⟨aa, al, ac⟩]) := by show _ = _; rw [HJ.out]
      obtain ⟨J1, J2⟩ := JV
      have hcon := hide (rjoin_any aa none q 0 ac 0 al [] wr ⟨Hla.out.1.keep hB, Hla.out.2⟩ ⟨.inl rfl, fun y hy => (by cases hy), (by decide)⟩ (by rw [Hq.out]; exact HlL.out) HlR.out HlS.out (fun y hy => (by cases hy)) (fun y hy => (by cases hy)) Hq.out rfl)
      rw [show joinV [⟨aa, al, ac⟩, ⟨none, [], 0⟩] = (J1, J2) from HA9.out.symm] at hcon
      clear HA9
      go_wp2_with fail
      refine hcon.out.mono ?_
      rintro e w9 ⟨v9, rfl, ho9, hb9⟩
      have Ho9 := hide (ho9.mono hB.size)
      have hB9 := chain0 hB hb9
      clear ho9 hb9 hB
      go_wp2
      go_ret2
      exact ⟨v9, rfl, Ho9.out, hB9⟩
     ·subst hk2
      obtain ⟨la, lb, rfl⟩ := len_two Hn.out.symm
      obtain ⟨b0, off0, e0, hcz⟩ := (Hr.out.keep hB).cellAt 0 la.v rfl
      subst e0
      rw [Nat.add_zero] at hcz
      obtain ⟨b1, off1, e1, hczb⟩ := (Hr.out.keep hB).cellAt 1 lb.v rfl
      injection e1 with e1
      injection e1 with e1 e2
      subst e1 e2
      have hix0 := ix_rowA b0 off0 2 c (by decide)
      have hix1 : ∀ W, (Instr.indexAt 22 (.slice (some ⟨b0, off0, none⟩) 2 c) (.int .i64 1)).run Tryz.prog W = .ok (.pointer (some ⟨b0, off0 + 1, none⟩)) W := ix_row b0 off0 2 c 1 (by decide)
      have Hla := hide (Hok.out la (by simp))
      have HlR := hide (HR.out la (by simp))
      have HlS := hide (Hsz.out la (by simp))
      have HlL := hide (HL.out la (by simp))
      have Hlb := hide (Hok.out lb (by simp))
      have HbR := hide (HR.out lb (by simp))
      have HbS := hide (Hsz.out lb (by simp))
      obtain ⟨aa, al, ac⟩ := la
      obtain ⟨ba, bl, bc⟩ := lb
      obtain ⟨q, hq⟩ : ∃ q, q = al.length := ⟨_, rfl⟩
      have hc0 : wr.cell? ⟨b0, off0, none⟩ = some (.slice aa q ac) := by rw [hq]; exact hcz
      obtain ⟨qb, hqb⟩ : ∃ q, q = bl.length := ⟨_, rfl⟩
      have hc1 : wr.cell? ⟨b0, off0 + 1, none⟩ = some (.slice ba qb bc) := by rw [hqb]; exact hczb
      clear hcz hczb
      have Hq := hide hq
      have Hqb := hide hqb
      clear hq hqb hkv
      have HA9 : Hid (JV = joinV [⟨aa, al, ac⟩, ⟨ba, bl, bc⟩]) := by show _ = _; rw [HJ.out]
      obtain ⟨J1, J2⟩ := JV
      have hcon : ∀ W, Below wr.heap.size wr W → Calls Tryz.prog 44 #[.slice aa q ac, .slice ba qb bc] W (Res W J1 J2) := by
       intro W hW
       have h := rjoin_any aa ba q qb ac bc al bl W ⟨(Hla.out.1.keep hB).keep hW, Hla.out.2⟩ ⟨(Hlb.out.1.keep hB).keep hW, Hlb.out.2⟩ (by rw [Hq.out]; exact HlL.out) HlR.out HlS.out HbR.out HbS.out Hq.out Hqb.out
       rw [show joinV [⟨aa, al, ac⟩, ⟨ba, bl, bc⟩] = (J1, J2) from HA9.out.symm] at h
       exact h
      have Hcon := hide hcon
      clear HA9 hcon
      obtain ⟨W0, rfl⟩ : ∃ W0, W0 = wr := ⟨_, rfl⟩
      have hBw := hB
      clear hB
      have hB := Below.refl W0.heap.size W0
      go_wp2_with fail
      refine wp_region_facts (R := RB W0.heap.size (⟨#[]⟩) (0)) [eqF _ _ _ 141 (.slice (some ⟨b0, off0, none⟩) 2 c), eqF _ _ _ 142 (.pointer (some ⟨b0, off0, none⟩)), eqF _ _ _ 143 (.slice aa q ac), eqF _ _ _ 144 (.slice (some ⟨b0, off0, none⟩) 2 c), eqF _ _ _ 145 (.pointer (some ⟨b0, off0 + 1, none⟩)), eqF _ _ _ 146 (.slice ba qb bc), someF _ _ _ 147 (fun x : Value × Unit => Value.tuple #[x.1, .int .i64 J2]) (fun (x : Value × Unit) (W : World) => OwI W W0.heap.size x.1 J1) (fun x w w1 hR h => OwI.keep h hR.be), someF _ _ _ 148 (fun x : Value × Unit => x.1) (fun (x : Value × Unit) (W : World) => OwI W W0.heap.size x.1 J1) (fun x w w1 hR h => OwI.keep h hR.be), eqF _ _ _ 149 (.int .i64 J2), someF _ _ _ 4 (fun x : Value × Unit => x.1) (fun (x : Value × Unit) (W : World) => OwI W W0.heap.size x.1 J1) (fun x w w1 hR h => OwI.keep h hR.be), eqF _ _ _ 5 (.int .i64 J2)] (by kernel_rfl) (by kernel_rfl) (by kernel_rfl) (RB.refl (Nat.le_refl _)) (fun _ h => h.again) (fun _ _ _ h k => h.trans k) ?_ ?_
      ·refine stepsU_cons rfl ?_ (stepsU_cons rfl ?_ (stepsU_cons rfl ?_ (stepsU_cons rfl ?_ (stepsU_cons rfl ?_ (stepsU_cons rfl ?_ (stepsU_cons rfl ?_ (stepsU_cons rfl ?_ (stepsU_cons rfl ?_ (stepsU_cons rfl ?_ (stepsU_cons rfl ?_ (stepsU_nil)))))))))))
       ·refine stepU_plain rfl fun u wr hR hK hD => ?_; exact upon_move _ _ rfl (hK 1 rfl) ⟨hR.again, rfl⟩
       ·refine stepU_plain rfl fun u wr hR hK hD => ?_; have z : u 141 = _ := (hD 0 rfl); exact upon_val _ (by unfold execOp; simp [go_sem, evU, z, hix0]) ⟨hR.again, rfl⟩
       ·refine stepU_plain rfl fun u wr hR hK hD => ?_; have z : u 142 = _ := (hD 1 rfl); have z2 := cell_keep hR.be hc0; exact upon_val _ (by unfold execOp; simp [go_sem, evU, z, z2]) ⟨hR.again, rfl⟩
       ·refine stepU_plain rfl fun u wr hR hK hD => ?_; exact upon_move _ _ rfl (hK 1 rfl) ⟨hR.again, rfl⟩
       ·refine stepU_plain rfl fun u wr hR hK hD => ?_; have z : u 144 = _ := (hD 3 rfl); exact upon_val _ (by unfold execOp; simp [go_sem, evU, z, hix1]) ⟨hR.again, rfl⟩
       ·refine stepU_plain rfl fun u wr hR hK hD => ?_; have z : u 145 = _ := (hD 4 rfl); have z2 := cell_keep hR.be hc1; exact upon_val _ (by unfold execOp; simp [go_sem, evU, z, z2]) ⟨hR.again, rfl⟩
       ·refine stepU_plain rfl fun u wr hR hK hD => ?_; exact upon_call2 _ _ _ _ _ Tryz.func44 (by kernel_rfl) rfl (hD 2 rfl) (hD 5 rfl) ((Hcon.out wr ⟨hR.be.os, hR.be.tape, hR.be.output, hR.be.size, hR.be.block⟩).mono fun e wn ⟨v, he, ho, hb⟩ => ⟨_, he, hR.next hb, ⟨(v, ()), rfl, OwI.mono ho hR.be.size⟩⟩)
       ·refine stepU_plain rfl fun u wr hR hK hD => ?_; obtain ⟨x, h1, h2⟩ := (hD 6 rfl); exact upon_extract _ 0 _ _ rfl h1 rfl ⟨hR.again, ⟨x, rfl, h2⟩⟩
       ·refine stepU_plain rfl fun u wr hR hK hD => ?_; obtain ⟨x, h1, h2⟩ := (hD 6 rfl); exact upon_extract _ 1 _ _ rfl h1 rfl ⟨hR.again, rfl⟩
       ·refine stepU_plain rfl fun u wr hR hK hD => ?_; obtain ⟨x, h1, h2⟩ := (hD 7 rfl); exact upon_assign _ _ rfl h1 ⟨hR.again, ⟨x, rfl, h2⟩⟩
       ·refine stepU_plain rfl fun u wr hR hK hD => ?_; exact upon_assign _ _ rfl (hD 8 rfl) ⟨hR.again, rfl⟩
      intro u w5 hR hF
      have e141 : u 141 = .slice (some ⟨b0, off0, none⟩) 2 c := hF 0 (by decide)
      have e142 : u 142 = .pointer (some ⟨b0, off0, none⟩) := hF 1 (by decide)
      have e143 : u 143 = .slice aa q ac := hF 2 (by decide)
      have e144 : u 144 = .slice (some ⟨b0, off0, none⟩) 2 c := hF 3 (by decide)
      have e145 : u 145 = .pointer (some ⟨b0, off0 + 1, none⟩) := hF 4 (by decide)
      have e146 : u 146 = .slice ba qb bc := hF 5 (by decide)
      have e149 : u 149 = .int .i64 J2 := hF 8 (by decide)
      have e5 : u 5 = .int .i64 J2 := hF 10 (by decide)
      obtain ⟨⟨a147, p147⟩, e147, r147⟩ := hF 6 (by decide)
      dsimp only at e147 r147
      obtain ⟨⟨a148, p148⟩, e148, r148⟩ := hF 7 (by decide)
      dsimp only at e148 r148
      obtain ⟨⟨a4, p4⟩, e4, r4⟩ := hF 9 (by decide)
      dsimp only at e4 r4
      simp only [finU, Act.put, List.setIfInBounds_toArray, List.set_cons_succ, List.set_cons_zero, e141, e142, e143, e144, e145, e146, e147, e148, e149, e4, e5]
      clear hF e141 e142 e143 e144 e145 e146 e147 e148 e149 e4 e5
      have hB2 : Below W0.heap.size W0 w5 := chain hB.drew hB.size hR.be
      have hb_w5 : Below W0.heap.size W0 w5 := ⟨hR.be.os, hR.be.tape, hR.be.output, hR.be.size, hR.be.block⟩
      clear hB hR
      have hB := hB2
      clear hB2
      have hB9 := chain0 hBw hb_w5
      have Ho9 := hide (OwI.mono r4 hBw.size)
      clear hB hb_w5 hBw hc0 hc1 r4 r147 r148
      go_wp2
      go_ret2
      exact ⟨a4, rfl, Ho9.out, hB9⟩
    ·have HA : Hid (JV = ([], 241)) := by show _ = _; rw [HJV.out, if_neg (by simp; omega)]
     clear HJV
     by_cases hc : k < 1
     ·have q1 : (k : Int) < 1 := by omega
      clear hkv hc
      go_wp2
      go_ret2
      exact ⟨.slice none 0 0, by rw [HA.out]; rfl, by rw [HA.out]; exact OwI.nil _ _, hB⟩
     ·have q1 : ¬ (k : Int) < 1 := by omega
      have q2 : (2 : Int) < (k : Int) := by omega
      clear hkv hc
      go_wp2
      go_ret2
      exact ⟨.slice none 0 0, by rw [HA.out]; rfl, by rw [HA.out]; exact OwI.nil _ _, hB⟩
   ·clear HG
    rw [show knV [115, 117, 98, 115, 116, 114, 105, 110, 103] k = (decide (2 ≤ k) && decide (k ≤ 3)) by exact knV_4 (by decide) (by decide) (by decide) (by decide) (by decide)] at HJV
    refine (rarity_substring _).mono ?_
    rintro e w4 ⟨rfl, rfl⟩
    by_cases hkv : 2 ≤ k ∧ k ≤ 3
    ·have HJ : Hid (JV = (subV) ls) := by show _ = _; rw [HJV.out, if_pos (by simp; omega)]
     have q1 : ¬ (k : Int) < 2 := by omega
     have q2 : ¬ (3 : Int) < (k : Int) := by omega
     clear HJV
     have Hkv := hide hkv
     obtain ⟨la, lr, rfl⟩ : ∃ a r, ls = a :: r := by
      cases ls with
      | nil => have := Hn.out; simp at this; omega
      | cons a r => exact ⟨a, r, rfl⟩
     obtain ⟨b0, off0, e0, hcz⟩ := (Hr.out.keep hB).cellAt 0 la.v rfl
     subst e0
     clear hcz
     have Hokw := hide (show OkAs wr (la :: lr) from OkAs.keep Hok.out hB)
     have hlr : lr.length = 1 ∨ lr.length = 2 := by have := Hn.out; simp at this; omega
     have Hlr := hide hlr
     clear hkv hlr
     have HA9 : Hid (JV = subV (la :: lr)) := by exact HJ.out.trans rfl
     obtain ⟨J1, J2⟩ := JV
     have hcon := hide (rsub_any b0 off0 k c la lr wr (Hr.out.keep hB) Hokw.out HR.out Hsz.out Hri.out Hlr.out (by have := Hn.out; simpa using this))
     rw [show subV (la :: lr) = (J1, J2) from HA9.out.symm] at hcon
     clear HA9
     have HA9 : Hid (((J1, J2) : List It × Int) = (J1, J2)) := rfl
     go_wp2_with fail
     refine hcon.out.mono ?_
     rintro e w9 ⟨v9, rfl, ho9, hb9⟩
     have Ho9 := hide (ho9.mono hB.size)
     have hB9 := chain0 hB hb9
     clear ho9 hb9 hB HA9
     go_wp2
     go_ret2
     exact ⟨v9, rfl, Ho9.out, hB9⟩
    ·have HA : Hid (JV = ([], 241)) := by show _ = _; rw [HJV.out, if_neg (by simp; omega)]
     clear HJV
     by_cases hc : k < 2
     ·have q1 : (k : Int) < 2 := by omega
      clear hkv hc
      go_wp2
      go_ret2
      exact ⟨.slice none 0 0, by rw [HA.out]; rfl, by rw [HA.out]; exact OwI.nil _ _, hB⟩
     ·have q1 : ¬ (k : Int) < 2 := by omega
      have q2 : (3 : Int) < (k : Int) := by omega
      clear hkv hc
      go_wp2
      go_ret2
      exact ⟨.slice none 0 0, by rw [HA.out]; rfl, by rw [HA.out]; exact OwI.nil _ _, hB⟩
   ·clear HG
    rw [show knV [115, 116, 114, 105, 110, 103] k = (decide (1 ≤ k) && decide (k ≤ 1)) by exact knV_1 (by decide) (by decide)] at HJV
    refine (rarity_string _).mono ?_
    rintro e w4 ⟨rfl, rfl⟩
    by_cases hkv : 1 ≤ k ∧ k ≤ 1
    ·have HJ : Hid (JV = (fT fString) ls) := by show _ = _; rw [HJV.out, if_pos (by simp; omega)]
     have q1 : ¬ (k : Int) < 1 := by omega
     have q2 : ¬ (1 : Int) < (k : Int) := by omega
     clear HJV
     have Hkv := hide hkv
     clear hkv
     have Hokw := hide (show OkAs wr ls from OkAs.keep Hok.out hB)
     have HA9 : Hid (JV = fT fString ls) := by exact HJ.out.trans rfl
     obtain ⟨J1, J2⟩ := JV
     have hcon := hide (rtexG_any _ _ p k c ls wr (Hr.out.keep hB) Hokw.out HR.out Hsz.out Hri.out Hn.out hnm (.inl ⟨rfl, rfl, (by have := Hkv.out; omega)⟩))
     rw [show fT fString ls = (J1, J2) from HA9.out.symm] at hcon
     clear HA9
     have HA9 : Hid (((J1, J2) : List It × Int) = (J1, J2)) := rfl
     go_wp2_with fail
     refine hcon.out.mono ?_
     rintro e w9 ⟨v9, rfl, ho9, hb9⟩
     have Ho9 := hide (ho9.mono hB.size)
     have hB9 := chain0 hB hb9
     clear ho9 hb9 hB HA9
     go_wp2
     go_ret2
     exact ⟨v9, rfl, Ho9.out, hB9⟩
    ·have HA : Hid (JV = ([], 241)) := by show _ = _; rw [HJV.out, if_neg (by simp; omega)]
     clear HJV
     by_cases hc : k < 1
     ·have q1 : (k : Int) < 1 := by omega
      clear hkv hc
      go_wp2
      go_ret2
      exact ⟨.slice none 0 0, by rw [HA.out]; rfl, by rw [HA.out]; exact OwI.nil _ _, hB⟩
     ·have q1 : ¬ (k : Int) < 1 := by omega
      have q2 : (1 : Int) < (k : Int) := by omega
      clear hkv hc
      go_wp2
      go_ret2
      exact ⟨.slice none 0 0, by rw [HA.out]; rfl, by rw [HA.out]; exact OwI.nil _ _, hB⟩
   ·clear HG
    rw [show knV [115, 116, 114, 105, 110, 103, 45, 108, 101, 110, 103, 116, 104] k = (decide (1 ≤ k) && decide (k ≤ 1)) by exact knV_1 (by decide) (by decide)] at HJV
    refine (rarity_string_length _).mono ?_
    rintro e w4 ⟨rfl, rfl⟩
    by_cases hkv : 1 ≤ k ∧ k ≤ 1
    ·have HJ : Hid (JV = (fT fLength) ls) := by show _ = _; rw [HJV.out, if_pos (by simp; omega)]
     have q1 : ¬ (k : Int) < 1 := by omega
     have q2 : ¬ (1 : Int) < (k : Int) := by omega
     clear HJV
     have Hkv := hide hkv
     clear hkv
     have Hokw := hide (show OkAs wr ls from OkAs.keep Hok.out hB)
     have HA9 : Hid (JV = fT fLength ls) := by exact HJ.out.trans rfl
     obtain ⟨J1, J2⟩ := JV
     have hcon := hide (rtexG_any _ _ p k c ls wr (Hr.out.keep hB) Hokw.out HR.out Hsz.out Hri.out Hn.out hnm (.inr (.inl ⟨rfl, rfl, (by have := Hkv.out; omega)⟩)))
     rw [show fT fLength ls = (J1, J2) from HA9.out.symm] at hcon
     clear HA9
     have HA9 : Hid (((J1, J2) : List It × Int) = (J1, J2)) := rfl
     go_wp2_with fail
     refine hcon.out.mono ?_
     rintro e w9 ⟨v9, rfl, ho9, hb9⟩
     have Ho9 := hide (ho9.mono hB.size)
     have hB9 := chain0 hB hb9
     clear ho9 hb9 hB HA9
     go_wp2
     go_ret2
     exact ⟨v9, rfl, Ho9.out, hB9⟩
    ·have HA : Hid (JV = ([], 241)) := by show _ = _; rw [HJV.out, if_neg (by simp; omega)]
     clear HJV
     by_cases hc : k < 1
     ·have q1 : (k : Int) < 1 := by omega
      clear hkv hc
      go_wp2
      go_ret2
      exact ⟨.slice none 0 0, by rw [HA.out]; rfl, by rw [HA.out]; exact OwI.nil _ _, hB⟩
     ·have q1 : ¬ (k : Int) < 1 := by omega
      have q2 : (1 : Int) < (k : Int) := by omega
      clear hkv hc
      go_wp2
      go_ret2
      exact ⟨.slice none 0 0, by rw [HA.out]; rfl, by rw [HA.out]; exact OwI.nil _ _, hB⟩
   ·clear HG
    rw [show knV [99, 111, 110, 99, 97, 116] k = (decide (2 ≤ k) && decide (k ≤ 60)) by exact knV_5 (by decide) (by decide) (by decide) (by decide) (by decide) (by decide)] at HJV
    refine (rarity_concat _).mono ?_
    rintro e w4 ⟨rfl, rfl⟩
    by_cases hkv : 2 ≤ k ∧ k ≤ 60
    ·have HJ : Hid (JV = (fT fConcat) ls) := by show _ = _; rw [HJV.out, if_pos (by simp; omega)]
     have q1 : ¬ (k : Int) < 2 := by omega
     have q2 : ¬ (60 : Int) < (k : Int) := by omega
     clear HJV
     have Hkv := hide hkv
     clear hkv
     have Hokw := hide (show OkAs wr ls from OkAs.keep Hok.out hB)
     have HA9 : Hid (JV = fT fConcat ls) := by exact HJ.out.trans rfl
     obtain ⟨J1, J2⟩ := JV
     have hcon := hide (rtexG_any _ _ p k c ls wr (Hr.out.keep hB) Hokw.out HR.out Hsz.out Hri.out Hn.out hnm (.inr (.inr (.inl ⟨rfl, rfl, trivial⟩))))
     rw [show fT fConcat ls = (J1, J2) from HA9.out.symm] at hcon
     clear HA9
     have HA9 : Hid (((J1, J2) : List It × Int) = (J1, J2)) := rfl
     go_wp2_with fail
     refine hcon.out.mono ?_
     rintro e w9 ⟨v9, rfl, ho9, hb9⟩
     have Ho9 := hide (ho9.mono hB.size)
     have hB9 := chain0 hB hb9
     clear ho9 hb9 hB HA9
     go_wp2
     go_ret2
     exact ⟨v9, rfl, Ho9.out, hB9⟩
    ·have HA : Hid (JV = ([], 241)) := by show _ = _; rw [HJV.out, if_neg (by simp; omega)]
     clear HJV
     by_cases hc : k < 2
     ·have q1 : (k : Int) < 2 := by omega
      clear hkv hc
      go_wp2
      go_ret2
      exact ⟨.slice none 0 0, by rw [HA.out]; rfl, by rw [HA.out]; exact OwI.nil _ _, hB⟩
     ·have q1 : ¬ (k : Int) < 2 := by omega
      have q2 : (60 : Int) < (k : Int) := by omega
      clear hkv hc
      go_wp2
      go_ret2
      exact ⟨.slice none 0 0, by rw [HA.out]; rfl, by rw [HA.out]; exact OwI.nil _ _, hB⟩
end Go.Proofs.YtaieiogmolaebaaGreatDoor
