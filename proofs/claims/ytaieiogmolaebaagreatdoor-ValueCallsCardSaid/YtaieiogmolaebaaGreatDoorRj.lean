/- The reference: functions of texts alone. -/
import Derived.Test.YtaieiogmolaebaaGreatDoorC34
import Derived.Test.YtaieiogmolaebaaGreatDoorC41
import Derived.Test.YtaieiogmolaebaaGreatDoorKe1
import Derived.Test.YtaieiogmolaebaaGreatDoorKe4
import Derived.Test.YtaieiogmolaebaaGreatDoorKe5
namespace Go.Proofs.YtaieiogmolaebaaGreatDoor
open Go.RowKit
theorem txs_runes {ls : List Lst} (h : ∀ x ∈ ls, x.l.all okI = true) : ∀ t ∈ txs ls, ∃ rs, OkR rs ∧ t.data.toList = enc rs := by
 intro t ht
 obtain ⟨x, hx, rfl⟩ := List.mem_map.1 ht
 exact strV_runes (h x hx)
theorem joinR_norm (t : ByteArray) : joinR ⟨#[]⟩ [normB t] = joinR ⟨#[32]⟩ (Lib.goFieldsP isBl t) := by
 rw [joinR_one]; rfl
def fT (f : List ByteArray → List It × Int) (ls : List Lst) : List It × Int := if errS ls = 0 then f (txs ls) else ([], errS ls)
set_option maxRecDepth 100000 in
set_option maxHeartbeats 16000000 in
theorem rtexG_any (nm : List UInt8) (f : List ByteArray → List It × Int) (p : Option Addr) (n c : Nat) (ls : List Lst) (w : World) (hr : Rd w p (ls.map Lst.v)) (hok : OkAs w ls) (hR : ∀ x ∈ ls, ∀ y ∈ x.l, R64 y.num) (hsz : ∀ x ∈ ls, ∀ y ∈ x.l, y.text.size ≤ 100000) (hri : ∀ x ∈ ls, x.l.all okI = true) (hn : n = ls.length) (hnm : n ≤ 1000) (hG : (nm = [115, 116, 114, 105, 110, 103] ∧ f = fString ∧ n = 1) ∨ (nm = [115, 116, 114, 105, 110, 103, 45, 108, 101, 110, 103, 116, 104] ∧ f = fLength ∧ n = 1) ∨ (nm = [99, 111, 110, 99, 97, 116] ∧ f = fConcat ∧ True) ∨ (nm = [110, 111, 114, 109, 97, 108, 105, 122, 101, 45, 115, 112, 97, 99, 101] ∧ f = fNorm ∧ n = 1) ∨ (nm = [117, 112, 112, 101, 114, 45, 99, 97, 115, 101] ∧ f = fUpper ∧ n = 1) ∨ (nm = [108, 111, 119, 101, 114, 45, 99, 97, 115, 101] ∧ f = fLower ∧ n = 1) ∨ (nm = [99, 111, 110, 116, 97, 105, 110, 115] ∧ f = fContains ∧ n = 2) ∨ (nm = [115, 116, 97, 114, 116, 115, 45, 119, 105, 116, 104] ∧ f = fStarts ∧ n = 2) ∨ (nm = [101, 110, 100, 115, 45, 119, 105, 116, 104] ∧ f = fEnds ∧ n = 2)) :
  Calls Tryz.prog 46 #[.string ⟨nm.toArray⟩, .slice p n c] w (Res w (fT f ls).1 (fT f ls).2) := by
 obtain ⟨i0, hi⟩ := info_parts (show (Tryz.prog.info? 9).map (fun i => (i.zero, i.size, i.bytes)) = some (some (.string ⟨#[]⟩), 1, 16) by kernel_rfl)
 have Hi := hide hi
 have Hr := hide hr
 have Hok := hide hok
 have HR := hide hR
 have Hsz := hide hsz
 have Hri := hide hri
 have Hn := hide hn
 have HG := hide hG
 have HE : Hid (errS ls = 0 → fT f ls = f (txs ls)) := by show _ → _; intro h; exact if_pos h
 have HE2 : Hid (errS ls ≠ 0 → fT f ls = ([], errS ls)) := by show _ → _; intro h; exact if_neg h
 clear hr hok hR hsz hri hn hi hG
 go_enter Tryz.func46, Tryz.ntmps46
 go_wp2_with fail
 go_loopw [6, 7] (fun lv iv W => ∃ k : Nat, k ≤ n ∧ iv = .int .i64 k ∧ Hid (∀ x ∈ ls.take k, (strV x.l).2 = 0) ∧ Hid (W.ownsRow w.heap.size 9 1 lv k ((txs (ls.take k)).map Value.string)) ∧ Below w.heap.size w W) (fun _ iv _ => n - (intOf iv).toNat)
 case atStart => exact ⟨0, Nat.zero_le _, rfl, hide (by simp), hide (ow_nil _ _ _ _), Below.refl _ _⟩
 case round =>
  obtain ⟨k, hk, rfl, Hz, Ho, hB⟩ := hrel
  obtain ⟨lav, lcv, hv⟩ := ow_forms Ho.out
  subst hv
  by_cases hlt : k < n
  ·have hI : (k : Int) < (n : Int) := by omega
   obtain ⟨x, hx⟩ : ∃ x, ls[k]? = some x := ⟨_, List.getElem?_eq_getElem (by have := Hn.out; omega)⟩
   obtain ⟨b1, off1, e1, hcz⟩ := (Hr.out.keep hB).cellAt k x.v (by simp [hx])
   subst e1
   have hix := ix_row b1 off1 n c k hlt
   have Hx := hide hx
   have Hokx := hide (Hok.out x (List.mem_of_getElem? hx))
   have HRx := hide (HR.out x (List.mem_of_getElem? hx))
   clear hx
   obtain ⟨xa, xl, xc⟩ := x
   obtain ⟨q, hq⟩ : ∃ q, q = xl.length := ⟨_, rfl⟩
   have hcx : wr.cell? ⟨b1, off1 + k, none⟩ = some (.slice xa q xc) := by rw [hq]; exact hcz
   clear hcz
   have Hq := hide hq
   clear hq
   go_wp2_with fail
   refine (rstring_any xa q xc xl _ ⟨Hokx.out.1.keep hB, Hokx.out.2⟩ HRx.out Hq.out).mono ?_
   rintro e w4 ⟨rfl, hb4⟩
   have hB4 := chain0 hB hb4
   have Ho4 := hide (ow_keep Ho.out hb4)
   clear hb4 hB hcx hix Ho
   by_cases hz0 : (strV xl).2 = 0
   ·have Hz2 : Hid (∀ x ∈ ls.take (k + 1), (strV x.l).2 = 0) := by
     show ∀ x ∈ _, _
     intro x hx
     rw [List.take_add_one, Hx.out] at hx
     rcases List.mem_append.1 hx with hx | hx
     ·exact Hz.out x hx
     ·simp at hx; subst hx; exact hz0
    have Htk : Hid (txs (ls.take (k + 1)) = txs (ls.take k) ++ [(strV xl).1]) := by show _ = _; rw [List.take_add_one, Hx.out]; simp [txs]
    rw [hz0]
    generalize (strV xl).1 = sx at *
    have hrd := Rd.new w4 9 [.string sx]
    have hk6 := (Below.refl w4.heap.size w4).alloc (Nat.le_refl _) (.cells #[.string sx] 9)
    have own6 := ow_keep Ho4.out hk6
    have be6 := chain0 hB4 hk6
    have Hrd := hide hrd
    have Own6 := hide own6
    clear hrd hk6 own6 hz0 Hz Ho4 hB4
    go_wp2_with (at_builtin; refine wpList_appR rfl _ _ 50 rfl i0 _ 16 1 Tryz.underlying50 Hi.out.1 Hi.out.2.1 Hi.out.2.2.1 Hi.out.2.2.2 rfl (by decide) rfl rfl ?e1 Own6.out Hrd.out (m := 1) rfl ?e2 ?e3 ?e4 ?_)
    case e1 => intro u hu; simp at hu; subst hu; rfl
    case e2 => omega
    case e3 => omega
    case e4 => exact be6.size
    intro v3 W3 own3 hg3 hv3
    have own4 : W3.ownsRow w.heap.size 9 1 v3 (k + 1) ((txs (ls.take (k + 1))).map Value.string) := by rw [Htk.out, List.map_append]; exact own3
    have hB3 : Below w.heap.size w W3 := be6.grown hg3 be6.size fun b hb => (ow_lt Own6.out b hb).1
    have Hown4 := hide own4
    clear own3 hg3 hv3 own4 Own6 Hrd be6
    go_wp2
    go_roundw
    case rel => exact ⟨k + 1, by omega, by simp, Hz2, hide Hown4.out, hB3⟩
    case measure => simp [intOf]; omega
   ·have hz1 : ((strV xl).2 != 0) = true := by simpa using hz0
    have HA : Hid (fT f ls = ([], (strV xl).2)) := by
     show _ = _
     have h1 := errS_at ls k _ Hz.out Hx.out hz0
     rw [HE2.out (by rw [h1]; exact hz0), h1]
    generalize (strV xl).1 = sx at *
    generalize (strV xl).2 = ex at *
    clear hz0 Hx
    go_wp2
    go_ret2
    exact ⟨.slice none 0 0, by rw [HA.out]; rfl, by rw [HA.out]; exact OwI.nil _ _, hB4⟩
  ·have hI : ¬ (k : Int) < (n : Int) := by omega
   have hkn : k = n := by omega
   subst hkn
   have htk : ls.take k = ls := List.take_of_length_le (by have := Hn.out; omega)
   have hown := Ho.out
   rw [htk] at hown
   have hzz := Hz.out
   rw [htk] at hzz
   have HA : Hid (fT f ls = f (txs ls)) := HE.out (errS_no ls hzz)
   have Hts : Hid (∀ t ∈ txs ls, t.size ≤ 100000) := by
    show ∀ t ∈ _, _
    intro t ht
    obtain ⟨x, hx, rfl⟩ := List.mem_map.1 ht
    exact strV_small x.l (HR.out x hx) (Hsz.out x hx)
   have Hrn := hide (txs_runes Hri.out)
   have Htl : Hid ((txs ls).length = k) := by show _ = _; simp [txs, ← Hn.out]
   have Hown := hide hown
   clear Hz Ho htk hzz HE HE2 hown
   generalize txs ls = tl at *
   obtain ⟨JV, hJV⟩ : ∃ x, x = fT f ls := ⟨_, rfl⟩
   rw [← hJV] at HA
   have HJV := hide hJV
   clear hJV
   rcases HG.out with ⟨rfl, rfl, hn0⟩ | ⟨rfl, rfl, hn0⟩ | ⟨rfl, rfl, hn0⟩ | ⟨rfl, rfl, hn0⟩ | ⟨rfl, rfl, hn0⟩ | ⟨rfl, rfl, hn0⟩ | ⟨rfl, rfl, hn0⟩ | ⟨rfl, rfl, hn0⟩ | ⟨rfl, rfl, hn0⟩
   ·have Hn0 := hide hn0
    clear HG hn0
    have hk1 : k = 1 := Hn0.out
    subst hk1
    obtain ⟨t0, rfl⟩ := List.length_eq_one_iff.1 Htl.out
    have hs0 := Hts.out t0 (by simp)
    obtain ⟨rs, ho0, hr0⟩ := Hrn.out t0 (by simp)
    have Hrs := hide ho0
    have Hrt := hide hr0
    obtain ⟨g, cap, hgv, hg, hglt, hcap⟩ := ow_form Hown.out (by decide)
    injection hgv with hga hgb hgc
    subst hga hgc
    have d0 : wr.cell? ⟨g, 0, none⟩ = some (.string t0) := ow_cell Hown.out 0 _ rfl
    have hx0 := ix_str g 0 1 lcv 0 (by decide)
    have Hs0 := hide hs0
    clear Hts Htl hg hcap hglt ho0 hr0 hgb hs0
    obtain ⟨J1, J2⟩ := JV
    have hsh := hide (rshort_any t0 wr)
    rw [show joinR ⟨#[]⟩ [t0] = (J1, J2) from HA.out.symm] at hsh
    clear HA
    go_wp2_with fail
    refine hsh.out.mono ?_
    rintro e w9 ⟨v9, rfl, ho9, hb9⟩
    have Ho9 := hide (ho9.mono hB.size)
    have hB9 := chain0 hB hb9
    clear ho9 hb9 hB
    go_wp2
    go_ret2
    exact ⟨v9, by rw [← HJV.out]; rfl, by rw [← HJV.out]; exact Ho9.out, hB9⟩
   ·have Hn0 := hide hn0
    clear HG hn0
    have hk1 : k = 1 := Hn0.out
    subst hk1
    obtain ⟨t0, rfl⟩ := List.length_eq_one_iff.1 Htl.out
    have hs0 := Hts.out t0 (by simp)
    obtain ⟨rs, ho0, hr0⟩ := Hrn.out t0 (by simp)
    have Hrs := hide ho0
    have Hrt := hide hr0
    obtain ⟨g, cap, hgv, hg, hglt, hcap⟩ := ow_form Hown.out (by decide)
    injection hgv with hga hgb hgc
    subst hga hgc
    have d0 : wr.cell? ⟨g, 0, none⟩ = some (.string t0) := ow_cell Hown.out 0 _ rfl
    have hx0 := ix_str g 0 1 lcv 0 (by decide)
    have Hs0 := hide hs0
    clear Hts Htl hg hcap hglt ho0 hr0 hgb hs0
    have hcount := count_runes Hrs.out Hrt.out
    have HA2 : Hid (JV = ([⟨2, (rs.length : Int), ⟨#[]⟩, 0⟩], 0)) := by show _ = _; rw [HA.out]; show ([(⟨2, (Lib.runeCount t0 : Int), ⟨#[]⟩, 0⟩ : It)], (0 : Int)) = _; rw [hcount]
    have hln := hide (rlength_any t0 rs wr Hrs.out Hrt.out (Nat.le_trans Hs0.out (by decide)))
    clear HA hcount
    obtain ⟨q, hq⟩ : ∃ q, q = rs.length := ⟨_, rfl⟩
    rw [← hq] at hln HA2
    clear hq
    go_wp2_with fail
    refine hln.out.mono ?_
    rintro e w8 ⟨rfl, rfl⟩
    go_wp2_with fail
    refine (rwhole_own (q : Int) _).mono ?_
    rintro e w9 ⟨v9, rfl, ho9, hb9⟩
    have Ho9 := hide (ho9.mono hB.size)
    have hB9 := chain0 hB hb9
    clear ho9 hb9 hB
    go_wp2
    go_ret2
    exact ⟨v9, by rw [← HJV.out, HA2.out]; rfl, by rw [← HJV.out, HA2.out]; exact Ho9.out, hB9⟩
   ·have Hn0 := hide hn0
    clear HG hn0
    obtain ⟨J1, J2⟩ := JV
    have hj := hide (rjoined_any ⟨#[]⟩ lav k lcv tl wr (ow_rd Hown.out) Htl.out.symm (by omega) (fun x hx => Nat.le_trans (Hts.out x hx) (by decide)) (by decide))
    rw [show joinR ⟨#[]⟩ tl = (J1, J2) from HA.out.symm] at hj
    clear HA
    go_wp2_with fail
    refine hj.out.mono ?_
    rintro e w9 ⟨v9, rfl, ho9, hb9⟩
    have Ho9 := hide (ho9.mono hB.size)
    have hB9 := chain0 hB hb9
    clear ho9 hb9 hB
    go_wp2
    go_ret2
    exact ⟨v9, by rw [← HJV.out]; rfl, by rw [← HJV.out]; exact Ho9.out, hB9⟩
   ·have Hn0 := hide hn0
    clear HG hn0
    have hk1 : k = 1 := Hn0.out
    subst hk1
    obtain ⟨t0, rfl⟩ := List.length_eq_one_iff.1 Htl.out
    have hs0 := Hts.out t0 (by simp)
    obtain ⟨rs, ho0, hr0⟩ := Hrn.out t0 (by simp)
    have Hrs := hide ho0
    have Hrt := hide hr0
    obtain ⟨g, cap, hgv, hg, hglt, hcap⟩ := ow_form Hown.out (by decide)
    injection hgv with hga hgb hgc
    subst hga hgc
    have d0 : wr.cell? ⟨g, 0, none⟩ = some (.string t0) := ow_cell Hown.out 0 _ rfl
    have hx0 := ix_str g 0 1 lcv 0 (by decide)
    have Hs0 := hide hs0
    clear Hts Htl hg hcap hglt ho0 hr0 hgb hs0
    obtain ⟨J1, J2⟩ := JV
    obtain ⟨tt, htt⟩ : ∃ x, x = spaceB t0 := ⟨_, rfl⟩
    have hmk := hide (rspaced_any t0 wr (Nat.le_trans Hs0.out (by decide)))
    rw [← htt] at hmk
    have hsh := fun W => rshort_any tt W
    rw [show joinR ⟨#[]⟩ [tt] = (J1, J2) from by rw [htt, space_norm Hrs.out Hrt.out]; first | exact HA.out.symm | exact (joinR_norm t0).trans HA.out.symm] at hsh
    have Hsh := hide hsh
    clear HA hsh htt
    go_wp2_with fail
    refine hmk.out.mono ?_
    rintro e w8 ⟨rfl, hb8⟩
    have hB8 := chain0 hB hb8
    clear hb8 hB
    have hB := hB8
    clear hB8 d0
    go_wp2_with fail
    refine (Hsh.out w8).mono ?_
    rintro e w9 ⟨v9, rfl, ho9, hb9⟩
    have Ho9 := hide (ho9.mono hB.size)
    have hB9 := chain0 hB hb9
    clear ho9 hb9 hB
    go_wp2
    go_ret2
    exact ⟨v9, by rw [← HJV.out]; rfl, by rw [← HJV.out]; exact Ho9.out, hB9⟩
   ·have Hn0 := hide hn0
    clear HG hn0
    have hk1 : k = 1 := Hn0.out
    subst hk1
    obtain ⟨t0, rfl⟩ := List.length_eq_one_iff.1 Htl.out
    have hs0 := Hts.out t0 (by simp)
    obtain ⟨rs, ho0, hr0⟩ := Hrn.out t0 (by simp)
    have Hrs := hide ho0
    have Hrt := hide hr0
    obtain ⟨g, cap, hgv, hg, hglt, hcap⟩ := ow_form Hown.out (by decide)
    injection hgv with hga hgb hgc
    subst hga hgc
    have d0 : wr.cell? ⟨g, 0, none⟩ = some (.string t0) := ow_cell Hown.out 0 _ rfl
    have hx0 := ix_str g 0 1 lcv 0 (by decide)
    have Hs0 := hide hs0
    clear Hts Htl hg hcap hglt ho0 hr0 hgb hs0
    obtain ⟨J1, J2⟩ := JV
    obtain ⟨tt, htt⟩ : ∃ x, x = (turnB 97 65) t0 := ⟨_, rfl⟩
    have hmk := hide (rturned_up t0 wr (Nat.le_trans Hs0.out (by decide)))
    rw [← htt] at hmk
    have hsh := fun W => rshort_any tt W
    rw [show joinR ⟨#[]⟩ [tt] = (J1, J2) from by rw [htt, turn_up Hrs.out Hrt.out]; first | exact HA.out.symm | exact (joinR_norm t0).trans HA.out.symm] at hsh
    have Hsh := hide hsh
    clear HA hsh htt
    go_wp2_with fail
    refine hmk.out.mono ?_
    rintro e w8 ⟨rfl, hb8⟩
    have hB8 := chain0 hB hb8
    clear hb8 hB
    have hB := hB8
    clear hB8 d0
    go_wp2_with fail
    refine (Hsh.out w8).mono ?_
    rintro e w9 ⟨v9, rfl, ho9, hb9⟩
    have Ho9 := hide (ho9.mono hB.size)
    have hB9 := chain0 hB hb9
    clear ho9 hb9 hB
    go_wp2
    go_ret2
    exact ⟨v9, by rw [← HJV.out]; rfl, by rw [← HJV.out]; exact Ho9.out, hB9⟩
   ·have Hn0 := hide hn0
    clear HG hn0
    have hk1 : k = 1 := Hn0.out
    subst hk1
    obtain ⟨t0, rfl⟩ := List.length_eq_one_iff.1 Htl.out
    have hs0 := Hts.out t0 (by simp)
    obtain ⟨rs, ho0, hr0⟩ := Hrn.out t0 (by simp)
    have Hrs := hide ho0
    have Hrt := hide hr0
    obtain ⟨g, cap, hgv, hg, hglt, hcap⟩ := ow_form Hown.out (by decide)
    injection hgv with hga hgb hgc
    subst hga hgc
    have d0 : wr.cell? ⟨g, 0, none⟩ = some (.string t0) := ow_cell Hown.out 0 _ rfl
    have hx0 := ix_str g 0 1 lcv 0 (by decide)
    have Hs0 := hide hs0
    clear Hts Htl hg hcap hglt ho0 hr0 hgb hs0
    obtain ⟨J1, J2⟩ := JV
    obtain ⟨tt, htt⟩ : ∃ x, x = (turnB 65 97) t0 := ⟨_, rfl⟩
    have hmk := hide (rturned_low t0 wr (Nat.le_trans Hs0.out (by decide)))
    rw [← htt] at hmk
    have hsh := fun W => rshort_any tt W
    rw [show joinR ⟨#[]⟩ [tt] = (J1, J2) from by rw [htt, turn_lo Hrs.out Hrt.out]; first | exact HA.out.symm | exact (joinR_norm t0).trans HA.out.symm] at hsh
    have Hsh := hide hsh
    clear HA hsh htt
    go_wp2_with fail
    refine hmk.out.mono ?_
    rintro e w8 ⟨rfl, hb8⟩
    have hB8 := chain0 hB hb8
    clear hb8 hB
    have hB := hB8
    clear hB8 d0
    go_wp2_with fail
    refine (Hsh.out w8).mono ?_
    rintro e w9 ⟨v9, rfl, ho9, hb9⟩
    have Ho9 := hide (ho9.mono hB.size)
    have hB9 := chain0 hB hb9
    clear ho9 hb9 hB
    go_wp2
    go_ret2
    exact ⟨v9, by rw [← HJV.out]; rfl, by rw [← HJV.out]; exact Ho9.out, hB9⟩
   ·have Hn0 := hide hn0
    clear HG hn0
    have hk2 : k = 2 := Hn0.out
    subst hk2
    obtain ⟨t0, t1, rfl⟩ := len_two Htl.out
    have hs0 := Hts.out t0 (by simp)
    have hs1 := Hts.out t1 (by simp)
    obtain ⟨g, cap, hgv, hg, hglt, hcap⟩ := ow_form Hown.out (by decide)
    injection hgv with hga hgb hgc
    subst hga hgc
    have d0 : wr.cell? ⟨g, 0, none⟩ = some (.string t0) := ow_cell Hown.out 0 _ rfl
    have d1 : wr.cell? ⟨g, 1, none⟩ = some (.string t1) := ow_cell Hown.out 1 _ rfl
    have hx0 : ∀ W, (Instr.indexAt 50 (.slice (some ⟨g, 0, none⟩) 2 lcv) (.int .i64 0)).run Tryz.prog W = .ok (.pointer (some ⟨g, 0, none⟩)) W := ix_str g 0 2 lcv 0 (by decide)
    have hx1 : ∀ W, (Instr.indexAt 50 (.slice (some ⟨g, 0, none⟩) 2 lcv) (.int .i64 1)).run Tryz.prog W = .ok (.pointer (some ⟨g, 1, none⟩)) W := ix_str g 0 2 lcv 1 (by decide)
    obtain ⟨bq, hbq⟩ : ∃ b, b = Lib.contains t0.data.toList t1.data.toList := ⟨_, rfl⟩
    have hst := fun W => rstands_contains t0 t1 W (Nat.le_trans hs0 (by decide)) (Nat.le_trans hs1 (by decide))
    rw [← hbq] at hst
    have Hst := hide hst
    have HA2 : Hid (JV = ([⟨4, bN bq, ⟨#[]⟩, 0⟩], 0)) := by show _ = _; rw [HA.out, hbq]; rfl
    clear Hts Htl hg hcap hglt hgb hs0 hs1 hst hbq HA
    obtain ⟨W0, rfl⟩ : ∃ W0, W0 = wr := ⟨_, rfl⟩
    have hBw := hB
    clear hB
    have hB := Below.refl W0.heap.size W0
    go_wp2_with fail
    refine wp_region_facts (R := RB W0.heap.size (⟨#[]⟩) (0)) [eqF _ _ _ 80 (.string ⟨#[99, 111, 110, 116, 97, 105, 110, 115]⟩), eqF _ _ _ 81 (.slice (some ⟨g, 0, none⟩) 2 lcv), eqF _ _ _ 82 (.pointer (some ⟨g, 0, none⟩)), eqF _ _ _ 83 (.string t0), eqF _ _ _ 84 (.slice (some ⟨g, 0, none⟩) 2 lcv), eqF _ _ _ 85 (.pointer (some ⟨g, 1, none⟩)), eqF _ _ _ 86 (.string t1), eqF _ _ _ 87 (.bool bq), someF _ _ _ 88 (fun x : Value × Unit => x.1) (fun (x : Value × Unit) (W : World) => OwI W W0.heap.size x.1 [⟨4, bN bq, ⟨#[]⟩, 0⟩]) (fun x w w' hR h => OwI.keep h hR.be), someF _ _ _ 4 (fun x : Value × Unit => x.1) (fun (x : Value × Unit) (W : World) => OwI W W0.heap.size x.1 [⟨4, bN bq, ⟨#[]⟩, 0⟩]) (fun x w w' hR h => OwI.keep h hR.be), eqF _ _ _ 5 (.int .i64 0)] (by kernel_rfl) (by kernel_rfl) (by kernel_rfl) (RB.refl (Nat.le_refl _)) (fun _ h => h.again) (fun _ _ _ h k => h.trans k) ?_ ?_
    ·refine stepsU_cons rfl ?_ (stepsU_cons rfl ?_ (stepsU_cons rfl ?_ (stepsU_cons rfl ?_ (stepsU_cons rfl ?_ (stepsU_cons rfl ?_ (stepsU_cons rfl ?_ (stepsU_cons rfl ?_ (stepsU_cons rfl ?_ (stepsU_cons rfl ?_ (stepsU_cons rfl ?_ (stepsU_nil)))))))))))
     ·refine stepU_plain rfl fun u wr hR hK hD => ?_; exact upon_move _ _ rfl (hK 0 rfl) ⟨hR.again, rfl⟩
     ·refine stepU_plain rfl fun u wr hR hK hD => ?_; exact upon_move _ _ rfl (hK 6 rfl) ⟨hR.again, rfl⟩
     ·refine stepU_plain rfl fun u wr hR hK hD => ?_; have z : u 81 = _ := (hD 1 rfl); exact upon_val _ (by unfold execOp; simp [go_sem, evU, z, hx0]) ⟨hR.again, rfl⟩
     ·refine stepU_plain rfl fun u wr hR hK hD => ?_; have z : u 82 = _ := (hD 2 rfl); have z2 := cell_keep hR.be d0; exact upon_val _ (by unfold execOp; simp [go_sem, evU, z, z2]) ⟨hR.again, rfl⟩
     ·refine stepU_plain rfl fun u wr hR hK hD => ?_; exact upon_move _ _ rfl (hK 6 rfl) ⟨hR.again, rfl⟩
     ·refine stepU_plain rfl fun u wr hR hK hD => ?_; have z : u 84 = _ := (hD 4 rfl); exact upon_val _ (by unfold execOp; simp [go_sem, evU, z, hx1]) ⟨hR.again, rfl⟩
     ·refine stepU_plain rfl fun u wr hR hK hD => ?_; have z : u 85 = _ := (hD 5 rfl); have z2 := cell_keep hR.be d1; exact upon_val _ (by unfold execOp; simp [go_sem, evU, z, z2]) ⟨hR.again, rfl⟩
     ·refine stepU_plain rfl fun u wr hR hK hD => ?_; exact upon_call3 _ _ _ _ _ _ _ Tryz.func83 (by kernel_rfl) rfl (hD 0 rfl) (hD 3 rfl) (hD 6 rfl) ((Hst.out wr).mono fun e wn ⟨he, hw⟩ => ⟨_, he, by subst hw; exact hR.again, rfl⟩)
     ·refine stepU_plain rfl fun u wr hR hK hD => ?_; exact upon_call1 _ _ _ Tryz.func39 (by kernel_rfl) rfl (hD 7 rfl) ((rtruth_own bq wr).mono fun e wn ⟨v, he, ho, hb⟩ => ⟨_, he, hR.next hb, ⟨(v, ()), rfl, OwI.mono ho (Nat.le_trans hR.hB hR.be.size)⟩⟩)
     ·refine stepU_plain rfl fun u wr hR hK hD => ?_; obtain ⟨x, h1, h2⟩ := (hD 8 rfl); exact upon_assign _ _ rfl h1 ⟨hR.again, ⟨x, rfl, h2⟩⟩
     ·refine stepU_plain rfl fun u wr hR hK hD => ?_; exact upon_assign _ _ rfl rfl ⟨hR.again, rfl⟩
    intro u w5 hR hF
    have e80 : u 80 = .string ⟨#[99, 111, 110, 116, 97, 105, 110, 115]⟩ := hF 0 (by decide)
    have e81 : u 81 = .slice (some ⟨g, 0, none⟩) 2 lcv := hF 1 (by decide)
    have e82 : u 82 = .pointer (some ⟨g, 0, none⟩) := hF 2 (by decide)
    have e83 : u 83 = .string t0 := hF 3 (by decide)
    have e84 : u 84 = .slice (some ⟨g, 0, none⟩) 2 lcv := hF 4 (by decide)
    have e85 : u 85 = .pointer (some ⟨g, 1, none⟩) := hF 5 (by decide)
    have e86 : u 86 = .string t1 := hF 6 (by decide)
    have e87 : u 87 = .bool bq := hF 7 (by decide)
    have e5 : u 5 = .int .i64 0 := hF 10 (by decide)
    obtain ⟨⟨a88, p88⟩, e88, r88⟩ := hF 8 (by decide)
    dsimp only at e88 r88
    obtain ⟨⟨a4, p4⟩, e4, r4⟩ := hF 9 (by decide)
    dsimp only at e4 r4
    simp only [finU, Act.put, List.setIfInBounds_toArray, List.set_cons_succ, List.set_cons_zero, e80, e81, e82, e83, e84, e85, e86, e87, e88, e4, e5]
    clear hF e80 e81 e82 e83 e84 e85 e86 e87 e88 e4 e5
    have hB2 : Below W0.heap.size W0 w5 := chain hB.drew hB.size hR.be
    have hb_w5 : Below W0.heap.size W0 w5 := ⟨hR.be.os, hR.be.tape, hR.be.output, hR.be.size, hR.be.block⟩
    clear hB hR
    have hB := hB2
    clear hB2
    have hB9 := chain0 hBw hb_w5
    have Ho9 := hide (OwI.mono r4 hBw.size)
    clear hB hb_w5 hBw d0 d1 hx0 hx1 r4 r88
    go_wp2
    go_ret2
    exact ⟨a4, by rw [← HJV.out, HA2.out]; rfl, by rw [← HJV.out, HA2.out]; exact Ho9.out, hB9⟩
   ·have Hn0 := hide hn0
    clear HG hn0
    have hk2 : k = 2 := Hn0.out
    subst hk2
    obtain ⟨t0, t1, rfl⟩ := len_two Htl.out
    have hs0 := Hts.out t0 (by simp)
    have hs1 := Hts.out t1 (by simp)
    obtain ⟨g, cap, hgv, hg, hglt, hcap⟩ := ow_form Hown.out (by decide)
    injection hgv with hga hgb hgc
    subst hga hgc
    have d0 : wr.cell? ⟨g, 0, none⟩ = some (.string t0) := ow_cell Hown.out 0 _ rfl
    have d1 : wr.cell? ⟨g, 1, none⟩ = some (.string t1) := ow_cell Hown.out 1 _ rfl
    have hx0 : ∀ W, (Instr.indexAt 50 (.slice (some ⟨g, 0, none⟩) 2 lcv) (.int .i64 0)).run Tryz.prog W = .ok (.pointer (some ⟨g, 0, none⟩)) W := ix_str g 0 2 lcv 0 (by decide)
    have hx1 : ∀ W, (Instr.indexAt 50 (.slice (some ⟨g, 0, none⟩) 2 lcv) (.int .i64 1)).run Tryz.prog W = .ok (.pointer (some ⟨g, 1, none⟩)) W := ix_str g 0 2 lcv 1 (by decide)
    obtain ⟨bq, hbq⟩ : ∃ b, b = Lib.hasPrefix t0.data.toList t1.data.toList := ⟨_, rfl⟩
    have hst := fun W => rstands_starts t0 t1 W (Nat.le_trans hs0 (by decide)) (Nat.le_trans hs1 (by decide))
    rw [← hbq] at hst
    have Hst := hide hst
    have HA2 : Hid (JV = ([⟨4, bN bq, ⟨#[]⟩, 0⟩], 0)) := by show _ = _; rw [HA.out, hbq]; rfl
    clear Hts Htl hg hcap hglt hgb hs0 hs1 hst hbq HA
    obtain ⟨W0, rfl⟩ : ∃ W0, W0 = wr := ⟨_, rfl⟩
    have hBw := hB
    clear hB
    have hB := Below.refl W0.heap.size W0
    go_wp2_with fail
    refine wp_region_facts (R := RB W0.heap.size (⟨#[]⟩) (0)) [eqF _ _ _ 80 (.string ⟨#[115, 116, 97, 114, 116, 115, 45, 119, 105, 116, 104]⟩), eqF _ _ _ 81 (.slice (some ⟨g, 0, none⟩) 2 lcv), eqF _ _ _ 82 (.pointer (some ⟨g, 0, none⟩)), eqF _ _ _ 83 (.string t0), eqF _ _ _ 84 (.slice (some ⟨g, 0, none⟩) 2 lcv), eqF _ _ _ 85 (.pointer (some ⟨g, 1, none⟩)), eqF _ _ _ 86 (.string t1), eqF _ _ _ 87 (.bool bq), someF _ _ _ 88 (fun x : Value × Unit => x.1) (fun (x : Value × Unit) (W : World) => OwI W W0.heap.size x.1 [⟨4, bN bq, ⟨#[]⟩, 0⟩]) (fun x w w' hR h => OwI.keep h hR.be), someF _ _ _ 4 (fun x : Value × Unit => x.1) (fun (x : Value × Unit) (W : World) => OwI W W0.heap.size x.1 [⟨4, bN bq, ⟨#[]⟩, 0⟩]) (fun x w w' hR h => OwI.keep h hR.be), eqF _ _ _ 5 (.int .i64 0)] (by kernel_rfl) (by kernel_rfl) (by kernel_rfl) (RB.refl (Nat.le_refl _)) (fun _ h => h.again) (fun _ _ _ h k => h.trans k) ?_ ?_
    ·refine stepsU_cons rfl ?_ (stepsU_cons rfl ?_ (stepsU_cons rfl ?_ (stepsU_cons rfl ?_ (stepsU_cons rfl ?_ (stepsU_cons rfl ?_ (stepsU_cons rfl ?_ (stepsU_cons rfl ?_ (stepsU_cons rfl ?_ (stepsU_cons rfl ?_ (stepsU_cons rfl ?_ (stepsU_nil)))))))))))
     ·refine stepU_plain rfl fun u wr hR hK hD => ?_; exact upon_move _ _ rfl (hK 0 rfl) ⟨hR.again, rfl⟩
     ·refine stepU_plain rfl fun u wr hR hK hD => ?_; exact upon_move _ _ rfl (hK 6 rfl) ⟨hR.again, rfl⟩
     ·refine stepU_plain rfl fun u wr hR hK hD => ?_; have z : u 81 = _ := (hD 1 rfl); exact upon_val _ (by unfold execOp; simp [go_sem, evU, z, hx0]) ⟨hR.again, rfl⟩
     ·refine stepU_plain rfl fun u wr hR hK hD => ?_; have z : u 82 = _ := (hD 2 rfl); have z2 := cell_keep hR.be d0; exact upon_val _ (by unfold execOp; simp [go_sem, evU, z, z2]) ⟨hR.again, rfl⟩
     ·refine stepU_plain rfl fun u wr hR hK hD => ?_; exact upon_move _ _ rfl (hK 6 rfl) ⟨hR.again, rfl⟩
     ·refine stepU_plain rfl fun u wr hR hK hD => ?_; have z : u 84 = _ := (hD 4 rfl); exact upon_val _ (by unfold execOp; simp [go_sem, evU, z, hx1]) ⟨hR.again, rfl⟩
     ·refine stepU_plain rfl fun u wr hR hK hD => ?_; have z : u 85 = _ := (hD 5 rfl); have z2 := cell_keep hR.be d1; exact upon_val _ (by unfold execOp; simp [go_sem, evU, z, z2]) ⟨hR.again, rfl⟩
     ·refine stepU_plain rfl fun u wr hR hK hD => ?_; exact upon_call3 _ _ _ _ _ _ _ Tryz.func83 (by kernel_rfl) rfl (hD 0 rfl) (hD 3 rfl) (hD 6 rfl) ((Hst.out wr).mono fun e wn ⟨he, hw⟩ => ⟨_, he, by subst hw; exact hR.again, rfl⟩)
     ·refine stepU_plain rfl fun u wr hR hK hD => ?_; exact upon_call1 _ _ _ Tryz.func39 (by kernel_rfl) rfl (hD 7 rfl) ((rtruth_own bq wr).mono fun e wn ⟨v, he, ho, hb⟩ => ⟨_, he, hR.next hb, ⟨(v, ()), rfl, OwI.mono ho (Nat.le_trans hR.hB hR.be.size)⟩⟩)
     ·refine stepU_plain rfl fun u wr hR hK hD => ?_; obtain ⟨x, h1, h2⟩ := (hD 8 rfl); exact upon_assign _ _ rfl h1 ⟨hR.again, ⟨x, rfl, h2⟩⟩
     ·refine stepU_plain rfl fun u wr hR hK hD => ?_; exact upon_assign _ _ rfl rfl ⟨hR.again, rfl⟩
    intro u w5 hR hF
    have e80 : u 80 = .string ⟨#[115, 116, 97, 114, 116, 115, 45, 119, 105, 116, 104]⟩ := hF 0 (by decide)
    have e81 : u 81 = .slice (some ⟨g, 0, none⟩) 2 lcv := hF 1 (by decide)
    have e82 : u 82 = .pointer (some ⟨g, 0, none⟩) := hF 2 (by decide)
    have e83 : u 83 = .string t0 := hF 3 (by decide)
    have e84 : u 84 = .slice (some ⟨g, 0, none⟩) 2 lcv := hF 4 (by decide)
    have e85 : u 85 = .pointer (some ⟨g, 1, none⟩) := hF 5 (by decide)
    have e86 : u 86 = .string t1 := hF 6 (by decide)
    have e87 : u 87 = .bool bq := hF 7 (by decide)
    have e5 : u 5 = .int .i64 0 := hF 10 (by decide)
    obtain ⟨⟨a88, p88⟩, e88, r88⟩ := hF 8 (by decide)
    dsimp only at e88 r88
    obtain ⟨⟨a4, p4⟩, e4, r4⟩ := hF 9 (by decide)
    dsimp only at e4 r4
    simp only [finU, Act.put, List.setIfInBounds_toArray, List.set_cons_succ, List.set_cons_zero, e80, e81, e82, e83, e84, e85, e86, e87, e88, e4, e5]
    clear hF e80 e81 e82 e83 e84 e85 e86 e87 e88 e4 e5
    have hB2 : Below W0.heap.size W0 w5 := chain hB.drew hB.size hR.be
    have hb_w5 : Below W0.heap.size W0 w5 := ⟨hR.be.os, hR.be.tape, hR.be.output, hR.be.size, hR.be.block⟩
    clear hB hR
    have hB := hB2
    clear hB2
    have hB9 := chain0 hBw hb_w5
    have Ho9 := hide (OwI.mono r4 hBw.size)
    clear hB hb_w5 hBw d0 d1 hx0 hx1 r4 r88
    go_wp2
    go_ret2
    exact ⟨a4, by rw [← HJV.out, HA2.out]; rfl, by rw [← HJV.out, HA2.out]; exact Ho9.out, hB9⟩
   ·have Hn0 := hide hn0
    clear HG hn0
    have hk2 : k = 2 := Hn0.out
    subst hk2
    obtain ⟨t0, t1, rfl⟩ := len_two Htl.out
    have hs0 := Hts.out t0 (by simp)
    have hs1 := Hts.out t1 (by simp)
    obtain ⟨g, cap, hgv, hg, hglt, hcap⟩ := ow_form Hown.out (by decide)
    injection hgv with hga hgb hgc
    subst hga hgc
    have d0 : wr.cell? ⟨g, 0, none⟩ = some (.string t0) := ow_cell Hown.out 0 _ rfl
    have d1 : wr.cell? ⟨g, 1, none⟩ = some (.string t1) := ow_cell Hown.out 1 _ rfl
    have hx0 : ∀ W, (Instr.indexAt 50 (.slice (some ⟨g, 0, none⟩) 2 lcv) (.int .i64 0)).run Tryz.prog W = .ok (.pointer (some ⟨g, 0, none⟩)) W := ix_str g 0 2 lcv 0 (by decide)
    have hx1 : ∀ W, (Instr.indexAt 50 (.slice (some ⟨g, 0, none⟩) 2 lcv) (.int .i64 1)).run Tryz.prog W = .ok (.pointer (some ⟨g, 1, none⟩)) W := ix_str g 0 2 lcv 1 (by decide)
    obtain ⟨bq, hbq⟩ : ∃ b, b = Lib.hasSuffix t0.data.toList t1.data.toList := ⟨_, rfl⟩
    have hst := fun W => rstands_ends t0 t1 W (Nat.le_trans hs0 (by decide)) (Nat.le_trans hs1 (by decide))
    rw [← hbq] at hst
    have Hst := hide hst
    have HA2 : Hid (JV = ([⟨4, bN bq, ⟨#[]⟩, 0⟩], 0)) := by show _ = _; rw [HA.out, hbq]; rfl
    clear Hts Htl hg hcap hglt hgb hs0 hs1 hst hbq HA
    obtain ⟨W0, rfl⟩ : ∃ W0, W0 = wr := ⟨_, rfl⟩
    have hBw := hB
    clear hB
    have hB := Below.refl W0.heap.size W0
    go_wp2_with fail
    refine wp_region_facts (R := RB W0.heap.size (⟨#[]⟩) (0)) [eqF _ _ _ 80 (.string ⟨#[101, 110, 100, 115, 45, 119, 105, 116, 104]⟩), eqF _ _ _ 81 (.slice (some ⟨g, 0, none⟩) 2 lcv), eqF _ _ _ 82 (.pointer (some ⟨g, 0, none⟩)), eqF _ _ _ 83 (.string t0), eqF _ _ _ 84 (.slice (some ⟨g, 0, none⟩) 2 lcv), eqF _ _ _ 85 (.pointer (some ⟨g, 1, none⟩)), eqF _ _ _ 86 (.string t1), eqF _ _ _ 87 (.bool bq), someF _ _ _ 88 (fun x : Value × Unit => x.1) (fun (x : Value × Unit) (W : World) => OwI W W0.heap.size x.1 [⟨4, bN bq, ⟨#[]⟩, 0⟩]) (fun x w w' hR h => OwI.keep h hR.be), someF _ _ _ 4 (fun x : Value × Unit => x.1) (fun (x : Value × Unit) (W : World) => OwI W W0.heap.size x.1 [⟨4, bN bq, ⟨#[]⟩, 0⟩]) (fun x w w' hR h => OwI.keep h hR.be), eqF _ _ _ 5 (.int .i64 0)] (by kernel_rfl) (by kernel_rfl) (by kernel_rfl) (RB.refl (Nat.le_refl _)) (fun _ h => h.again) (fun _ _ _ h k => h.trans k) ?_ ?_
    ·refine stepsU_cons rfl ?_ (stepsU_cons rfl ?_ (stepsU_cons rfl ?_ (stepsU_cons rfl ?_ (stepsU_cons rfl ?_ (stepsU_cons rfl ?_ (stepsU_cons rfl ?_ (stepsU_cons rfl ?_ (stepsU_cons rfl ?_ (stepsU_cons rfl ?_ (stepsU_cons rfl ?_ (stepsU_nil)))))))))))
     ·refine stepU_plain rfl fun u wr hR hK hD => ?_; exact upon_move _ _ rfl (hK 0 rfl) ⟨hR.again, rfl⟩
     ·refine stepU_plain rfl fun u wr hR hK hD => ?_; exact upon_move _ _ rfl (hK 6 rfl) ⟨hR.again, rfl⟩
     ·refine stepU_plain rfl fun u wr hR hK hD => ?_; have z : u 81 = _ := (hD 1 rfl); exact upon_val _ (by unfold execOp; simp [go_sem, evU, z, hx0]) ⟨hR.again, rfl⟩
     ·refine stepU_plain rfl fun u wr hR hK hD => ?_; have z : u 82 = _ := (hD 2 rfl); have z2 := cell_keep hR.be d0; exact upon_val _ (by unfold execOp; simp [go_sem, evU, z, z2]) ⟨hR.again, rfl⟩
     ·refine stepU_plain rfl fun u wr hR hK hD => ?_; exact upon_move _ _ rfl (hK 6 rfl) ⟨hR.again, rfl⟩
     ·refine stepU_plain rfl fun u wr hR hK hD => ?_; have z : u 84 = _ := (hD 4 rfl); exact upon_val _ (by unfold execOp; simp [go_sem, evU, z, hx1]) ⟨hR.again, rfl⟩
     ·refine stepU_plain rfl fun u wr hR hK hD => ?_; have z : u 85 = _ := (hD 5 rfl); have z2 := cell_keep hR.be d1; exact upon_val _ (by unfold execOp; simp [go_sem, evU, z, z2]) ⟨hR.again, rfl⟩
     ·refine stepU_plain rfl fun u wr hR hK hD => ?_; exact upon_call3 _ _ _ _ _ _ _ Tryz.func83 (by kernel_rfl) rfl (hD 0 rfl) (hD 3 rfl) (hD 6 rfl) ((Hst.out wr).mono fun e wn ⟨he, hw⟩ => ⟨_, he, by subst hw; exact hR.again, rfl⟩)
     ·refine stepU_plain rfl fun u wr hR hK hD => ?_; exact upon_call1 _ _ _ Tryz.func39 (by kernel_rfl) rfl (hD 7 rfl) ((rtruth_own bq wr).mono fun e wn ⟨v, he, ho, hb⟩ => ⟨_, he, hR.next hb, ⟨(v, ()), rfl, OwI.mono ho (Nat.le_trans hR.hB hR.be.size)⟩⟩)
     ·refine stepU_plain rfl fun u wr hR hK hD => ?_; obtain ⟨x, h1, h2⟩ := (hD 8 rfl); exact upon_assign _ _ rfl h1 ⟨hR.again, ⟨x, rfl, h2⟩⟩
     ·refine stepU_plain rfl fun u wr hR hK hD => ?_; exact upon_assign _ _ rfl rfl ⟨hR.again, rfl⟩
    intro u w5 hR hF
    have e80 : u 80 = .string ⟨#[101, 110, 100, 115, 45, 119, 105, 116, 104]⟩ := hF 0 (by decide)
    have e81 : u 81 = .slice (some ⟨g, 0, none⟩) 2 lcv := hF 1 (by decide)
    have e82 : u 82 = .pointer (some ⟨g, 0, none⟩) := hF 2 (by decide)
    have e83 : u 83 = .string t0 := hF 3 (by decide)
    have e84 : u 84 = .slice (some ⟨g, 0, none⟩) 2 lcv := hF 4 (by decide)
    have e85 : u 85 = .pointer (some ⟨g, 1, none⟩) := hF 5 (by decide)
    have e86 : u 86 = .string t1 := hF 6 (by decide)
    have e87 : u 87 = .bool bq := hF 7 (by decide)
    have e5 : u 5 = .int .i64 0 := hF 10 (by decide)
    obtain ⟨⟨a88, p88⟩, e88, r88⟩ := hF 8 (by decide)
    dsimp only at e88 r88
    obtain ⟨⟨a4, p4⟩, e4, r4⟩ := hF 9 (by decide)
    dsimp only at e4 r4
    simp only [finU, Act.put, List.setIfInBounds_toArray, List.set_cons_succ, List.set_cons_zero, e80, e81, e82, e83, e84, e85, e86, e87, e88, e4, e5]
    clear hF e80 e81 e82 e83 e84 e85 e86 e87 e88 e4 e5
    have hB2 : Below W0.heap.size W0 w5 := chain hB.drew hB.size hR.be
    have hb_w5 : Below W0.heap.size W0 w5 := ⟨hR.be.os, hR.be.tape, hR.be.output, hR.be.size, hR.be.block⟩
    clear hB hR
    have hB := hB2
    clear hB2
    have hB9 := chain0 hBw hb_w5
    have Ho9 := hide (OwI.mono r4 hBw.size)
    clear hB hb_w5 hBw d0 d1 hx0 hx1 r4 r88
    go_wp2
    go_ret2
    exact ⟨a4, by rw [← HJV.out, HA2.out]; rfl, by rw [← HJV.out, HA2.out]; exact Ho9.out, hB9⟩
end Go.Proofs.YtaieiogmolaebaaGreatDoor
