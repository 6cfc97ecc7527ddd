/- value.Call at functions of texts: starts-with, ends-with. The reference: how many arguments a function has. -/
import Derived.Test.YtaieiogmolaebaaGreatDoorC17
import Derived.Test.YtaieiogmolaebaaGreatDoorKe1
import Derived.Test.YtaieiogmolaebaaGreatDoorC16
namespace Go.Proofs.YtaieiogmolaebaaGreatDoor
set_option maxRecDepth 100000
set_option maxHeartbeats 4000000
open Go.RowKit
theorem callT_starts_with (p : Option Addr) (n c : Nat) (ls : List Lst) (m : Int) (w : World) (he : Env w) (hm : w.cell? ⟨3, 0, none⟩ = some (.int .i64 m)) (hc : Counts w) (hr : Rd w p (ls.map Lst.v)) (hok : OkAs w ls)
  (hR : ∀ x ∈ ls, ∀ y ∈ x.l, R64 y.num) (hsz : ∀ x ∈ ls, ∀ y ∈ x.l, y.text.size ≤ 100000) (hn : n = ls.length) (hnm : n ≤ 1000000) :
  Calls Tryz.prog 7 #[.string ⟨#[115, 116, 97, 114, 116, 115, 45, 119, 105, 116, 104]⟩, .slice p n c] w (Res w (callT [115, 116, 97, 114, 116, 115, 45, 119, 105, 116, 104] fStarts ls).1 (callT [115, 116, 97, 114, 116, 115, 45, 119, 105, 116, 104] fStarts ls).2) := by
 obtain ⟨i0, hi⟩ := info_parts (show (Tryz.prog.info? 9).map (fun i => (i.zero, i.size, i.bytes)) = some (some (.string ⟨#[]⟩), 1, 16) by kernel_rfl)
 have Hi := hide hi
 have He := hide he
 have Hm := hide hm
 have Hc := hide hc
 have Hr := hide hr
 have Hok := hide hok
 have HR := hide hR
 have Hsz := hide hsz
 have Hn := hide hn
 have Hnm := hide hnm
 have Hrt := hide (right_any p n c ls w he.t8 hn (by omega) hr hok)
 have Hkn : Hid (∀ W, Below w.heap.size w W → Calls Tryz.prog 22 #[.string ⟨#[115, 116, 97, 114, 116, 115, 45, 119, 105, 116, 104]⟩, .int .i64 n] W fun e w' => e = .returned (.bool (knV [115, 116, 97, 114, 116, 115, 45, 119, 105, 116, 104] n)) ∧ Below W.heap.size W w') := fun W hW => known_any ⟨#[115, 116, 97, 114, 116, 115, 45, 119, 105, 116, 104]⟩ n m W (cell_keep hW hm) (hc.keep hW) (by decide)
 have hnl : n < 9223372036854775807 := by omega
 have Hall : Hid (callT [115, 116, 97, 114, 116, 115, 45, 119, 105, 116, 104] fStarts ls = if rightL ls = true then (if knV [115, 116, 97, 114, 116, 115, 45, 119, 105, 116, 104] n = true then (if errS ls = 0 then fStarts (txs ls) else ([], errS ls)) else ([], 241)) else ([], 2)) := by show _ = _; unfold callT; rw [hn]
 clear he hm hc hr hok hR hsz hn hnm hi
 rcases Bool.eq_false_or_eq_true (rightL ls) with hq | hq
 rotate_left
 ·rw [hq] at Hrt
  have HA : Hid (callT [115, 116, 97, 114, 116, 115, 45, 119, 105, 116, 104] fStarts ls = ([], 2)) := by show _ = _; rw [Hall.out, hq]; rfl
  clear hq Hall
  go_enter Tryz.func7, Tryz.ntmps7
  go_wp2_with fail
  refine Hrt.out.mono ?_
  rintro e w1 ⟨rfl, hb1⟩
  go_wp2
  go_ret2
  exact ⟨.slice none 0 0, by rw [HA.out]; rfl, by rw [HA.out]; exact OwI.nil _ _, hb1⟩
 rw [hq] at Hrt
 rcases Bool.eq_false_or_eq_true (knV [115, 116, 97, 114, 116, 115, 45, 119, 105, 116, 104] n) with hk | hk
 rotate_left
 ·rw [hk] at Hkn
  have HA : Hid (callT [115, 116, 97, 114, 116, 115, 45, 119, 105, 116, 104] fStarts ls = ([], 241)) := by show _ = _; rw [Hall.out, hq, hk]; rfl
  clear hq hk Hall
  go_enter Tryz.func7, Tryz.ntmps7
  go_wp2_with fail
  refine Hrt.out.mono ?_
  rintro e w1 ⟨rfl, hb1⟩
  go_wp2_with fail
  refine (Hkn.out w1 hb1).mono ?_
  rintro e w2 ⟨rfl, hb2⟩
  have hB2 := chain0 hb1 hb2
  go_wp2
  go_ret2
  exact ⟨.slice none 0 0, by rw [HA.out]; rfl, by rw [HA.out]; exact OwI.nil _ _, hB2⟩
 have Hk := hide hk
 have HE : Hid (errS ls = 0 → callT [115, 116, 97, 114, 116, 115, 45, 119, 105, 116, 104] fStarts ls = fStarts (txs ls)) := by show _ → _; intro h; rw [Hall.out, hq, hk, if_pos rfl, if_pos rfl, if_pos h]
 have HE2 : Hid (errS ls ≠ 0 → callT [115, 116, 97, 114, 116, 115, 45, 119, 105, 116, 104] fStarts ls = ([], errS ls)) := by show _ → _; intro h; rw [Hall.out, hq, hk, if_pos rfl, if_pos rfl, if_neg h]
 rw [hk] at Hkn
 have hn0 : 0 < n := by
  rcases Nat.eq_zero_or_pos n with h | h
  ·subst h; rw [show knV [115, 116, 97, 114, 116, 115, 45, 119, 105, 116, 104] 0 = false by decide +kernel] at hk; cases hk
  ·exact h
 clear hq hk Hall
 obtain ⟨y0, hy0⟩ : ∃ y, ls[0]? = some y := ⟨_, List.getElem?_eq_getElem (by have := Hn.out; omega)⟩
 obtain ⟨b0, off0, rfl, hcz⟩ := Hr.out.cellAt 0 y0.v (by simp [hy0])
 clear hcz
 have Hy0 := hide hy0
 have hix0 := ix_rowA b0 off0 n c hn0
 clear hy0
 go_enter Tryz.func7, Tryz.ntmps7
 go_wp2_with fail
 refine Hrt.out.mono ?_
 rintro e w1 ⟨rfl, hb1⟩
 go_wp2_with fail
 refine (Hkn.out w1 hb1).mono ?_
 rintro e w2 ⟨rfl, hb2⟩
 have hB2 := chain0 hb1 hb2
 clear hb1 hb2 Hkn Hrt
 obtain ⟨b1, off1, e1, hcz⟩ := (Hr.out.keep hB2).cellAt 0 y0.v (by simp [Hy0.out])
 injection e1 with e1
 injection e1 with e1 e2
 subst e1 e2
 rw [Nat.add_zero] at hcz
 obtain ⟨ya, yl, yc⟩ := y0
 have hc0 : w2.cell? ⟨b0, off0, none⟩ = some (.slice ya yl.length yc) := hcz
 clear hcz
 go_wp2_with fail
 refine (ofItems_no_starts_with b0 off0 n c _ _ hn0 hc0 ⟨_, _, _, rfl⟩).mono ?_
 rintro e wx ⟨rfl, rfl⟩
 go_wp2_with fail
 refine (ofNumbers_no_starts_with _ _).mono ?_
 rintro e wx ⟨rfl, rfl⟩
 clear hc0 hix0
 go_wp2_with fail
 go_loopw [12, 51] (fun lv iv W => ∃ k : Nat, k ≤ n ∧ iv = .int .i64 k ∧ Hid (∀ x ∈ ls.take k, (strV x.l).2 = 0) ∧ Hid (W.ownsRow w.heap.size 9 1 lv k ((txs (ls.take k)).map Value.string)) ∧ Below w.heap.size w W) (fun _ iv _ => n - (intOf iv).toNat)
 case atStart => exact ⟨0, Nat.zero_le _, rfl, hide (by simp), hide (ow_nil _ _ _ _), hB2⟩
 case round =>
  clear hB2
  obtain ⟨k, hk, rfl, Hz, Ho, hB⟩ := hrel
  by_cases hlt : k < n
  ·have hI : (k : Int) < (n : Int) := by omega
   obtain ⟨x, hx⟩ : ∃ x, ls[k]? = some x := ⟨_, List.getElem?_eq_getElem (by have := Hn.out; omega)⟩
   obtain ⟨b1, off1, e1, hcz⟩ := (Hr.out.keep hB).cellAt k x.v (by simp [hx])
   injection e1 with e1
   injection e1 with e1 e2
   subst e1 e2
   have hix := ix_row b0 off0 n c k hlt
   have Hx := hide hx
   have Hokx := hide (Hok.out x (List.mem_of_getElem? hx))
   have HRx := hide (HR.out x (List.mem_of_getElem? hx))
   clear hx
   obtain ⟨xa, xl, xc⟩ := x
   obtain ⟨q, hq⟩ : ∃ q, q = xl.length := ⟨_, rfl⟩
   have hcx : wr.cell? ⟨b0, off0 + k, none⟩ = some (.slice xa q xc) := by rw [hq]; exact hcz
   clear hcz
   have Hq := hide hq
   clear hq
   go_wp2_with fail
   refine (string_any xa q xc xl _ (He.out.keep hB) ⟨Hokx.out.1.keep hB, Hokx.out.2⟩ HRx.out Hq.out).mono ?_
   rintro e w4 ⟨rfl, hb4⟩
   have hB4 := chain0 hB hb4
   have Ho4 := hide (ow_keep Ho.out hb4)
   clear hb4 hB hcx hix Ho
   by_cases hz0 : (strV xl).2 = 0
   ·have Hz2 : Hid (∀ x ∈ ls.take (k + 1), (strV x.l).2 = 0) := by
     show ∀ x ∈ _, _
     intro x hx
     rw [List.take_add_one, Hx.out] at hx
     rcases List.mem_append.1 hx with hx | hx
     ·exact Hz.out x hx
     ·simp at hx; subst hx; exact hz0
    have Htk : Hid (txs (ls.take (k + 1)) = txs (ls.take k) ++ [(strV xl).1]) := by show _ = _; rw [List.take_add_one, Hx.out]; simp [txs]
    rw [hz0]
    generalize (strV xl).1 = sx at *
    have hrd := Rd.new w4 9 [.string sx]
    have hk6 := (Below.refl w4.heap.size w4).alloc (Nat.le_refl _) (.cells #[.string sx] 9)
    have own6 := ow_keep Ho4.out hk6
    have be6 := chain0 hB4 hk6
    have Hrd := hide hrd
    have Own6 := hide own6
    clear hrd hk6 own6 hz0 Hz Ho4 hB4
    go_wp2_with (at_builtin; refine wpList_appR rfl _ _ 50 rfl i0 _ 16 1 Tryz.underlying50 Hi.out.1 Hi.out.2.1 Hi.out.2.2.1 Hi.out.2.2.2 rfl (by decide) rfl rfl ?e1 Own6.out Hrd.out (m := 1) rfl ?e2 ?e3 ?e4 ?_)
    case e1 => intro u hu; simp at hu; subst hu; rfl
    case e2 => have := Hnm.out; omega
    case e3 => have := Hnm.out; omega
    case e4 => exact be6.size
    intro v' W7 hown7 hg7 _
    have Hown7 : Hid (W7.ownsRow w.heap.size 9 1 v' (k + 1) ((txs (ls.take (k + 1))).map Value.string)) := by
     show World.ownsRow _ _ _ _ _ _ _
     rw [Htk.out, List.map_append]; exact hown7
    have hB7 := be6.grown hg7 be6.size (fun k hk => (ow_lt Own6.out k hk).1)
    clear hown7 hg7 Own6 be6 Hrd
    go_wp2
    go_roundw
    case rel => exact ⟨k + 1, by omega, by simp, Hz2, Hown7, hB7⟩
    case measure => simp [intOf]; omega
   ·have hz1 : ((strV xl).2 != 0) = true := by simpa using hz0
    have HEr : Hid (errS ls = (strV xl).2) := errS_at ls k _ Hz.out Hx.out hz0
    have HA : Hid (callT [115, 116, 97, 114, 116, 115, 45, 119, 105, 116, 104] fStarts ls = ([], (strV xl).2)) := by show _ = _; rw [HE2.out (by rw [HEr.out]; exact hz0), HEr.out]
    generalize (strV xl).2 = er at *
    generalize (strV xl).1 = sx at *
    clear hz0 HEr Hz Ho4
    go_wp2
    go_ret2
    exact ⟨.slice none 0 0, by rw [HA.out]; rfl, by rw [HA.out]; exact OwI.nil _ _, hB4⟩
  ·have hI : ¬ (k : Int) < (n : Int) := by omega
   have hkn : k = n := by omega
   have htk : ls.take n = ls := List.take_of_length_le (by have := Hn.out; omega)
   have Hz2 := Hz.out
   have Ho2 := Ho.out
   rw [hkn, htk] at Hz2 Ho2
   have HA := hide (HE.out (errS_no ls Hz2))
   have Hown := hide Ho2
   subst hkn
   have Htl : Hid ((txs ls).length = k) := by show _ = _; rw [Hn.out]; simp [txs]
   have Hts : Hid (∀ t ∈ txs ls, t.size ≤ 100000) := by
    show ∀ t ∈ txs ls, _
    intro t ht
    obtain ⟨x, hx, rfl⟩ := List.mem_map.1 ht
    exact strV_small x.l (HR.out x hx) (Hsz.out x hx)
   clear Hz Ho Hz2 Ho2 htk HE HE2
   obtain ⟨g, cap, rfl, hg, hglt, hcap⟩ := ow_form Hown.out (by omega)
   generalize txs ls = tl at *
   have hk1 : k = 2 := by
    have h := Hk.out
    unfold knV at h
    simp [wK0, wK1, wK2] at h
    omega
   subst hk1
   obtain ⟨t0, t1, rfl⟩ := len_two Htl.out
   have hs0 := Hts.out t0 (by simp)
   have hs1 := Hts.out t1 (by simp)
   have d0 : wr.cell? ⟨g, 0, none⟩ = some (.string t0) := ow_cell Hown.out 0 _ rfl
   have d1 : wr.cell? ⟨g, 1, none⟩ = some (.string t1) := ow_cell Hown.out 1 _ rfl
   have hx0 := ix_str g 0 2 cap 0 (by decide)
   have hx1 := ix_str g 0 2 cap 1 (by decide)
   rw [Nat.zero_add] at hx1
   clear Hts Hk Htl hg hcap
   have Hs0 := hide hs0
   have hbsz := hB.size
   clear hs0 hs1
   go_wp2_with fail
   refine (Tryz.strings_HasPrefix t0 t1 _).mono ?_
   rintro e w8 ⟨rfl, hw8⟩
   have hB8 : Below w.heap.size w w8 := by rw [hw8]; exact hB
   clear hw8
   have HA2 : Hid (callT [115, 116, 97, 114, 116, 115, 45, 119, 105, 116, 104] fStarts ls = ([⟨4, bN (Lib.hasPrefix t0.data.toList t1.data.toList), ⟨#[]⟩, 0⟩], 0)) := by show _ = _; exact HA.out
   clear HA
   have HA := HA2
   clear HA2
   generalize Lib.hasPrefix t0.data.toList t1.data.toList = bq at *
   go_wp2_with fail
   refine (vtruth_own bq _).mono ?_
   rintro e w9 ⟨v9, rfl, ho9, hb9⟩
   have Ho9 := hide (ho9.mono hB8.size)
   have hB9 := chain0 hB8 hb9
   clear hb9 ho9
   go_wp2
   go_ret2
   exact ⟨v9, by rw [HA.out]; rfl, by rw [HA.out]; exact Ho9.out, hB9⟩
theorem callT_ends_with (p : Option Addr) (n c : Nat) (ls : List Lst) (m : Int) (w : World) (he : Env w) (hm : w.cell? ⟨3, 0, none⟩ = some (.int .i64 m)) (hc : Counts w) (hr : Rd w p (ls.map Lst.v)) (hok : OkAs w ls)
  (hR : ∀ x ∈ ls, ∀ y ∈ x.l, R64 y.num) (hsz : ∀ x ∈ ls, ∀ y ∈ x.l, y.text.size ≤ 100000) (hn : n = ls.length) (hnm : n ≤ 1000000) :
  Calls Tryz.prog 7 #[.string ⟨#[101, 110, 100, 115, 45, 119, 105, 116, 104]⟩, .slice p n c] w (Res w (callT [101, 110, 100, 115, 45, 119, 105, 116, 104] fEnds ls).1 (callT [101, 110, 100, 115, 45, 119, 105, 116, 104] fEnds ls).2) := by
 obtain ⟨i0, hi⟩ := info_parts (show (Tryz.prog.info? 9).map (fun i => (i.zero, i.size, i.bytes)) = some (some (.string ⟨#[]⟩), 1, 16) by kernel_rfl)
 have Hi := hide hi
 have He := hide he
 have Hm := hide hm
 have Hc := hide hc
 have Hr := hide hr
 have Hok := hide hok
 have HR := hide hR
 have Hsz := hide hsz
 have Hn := hide hn
 have Hnm := hide hnm
 have Hrt := hide (right_any p n c ls w he.t8 hn (by omega) hr hok)
 have Hkn : Hid (∀ W, Below w.heap.size w W → Calls Tryz.prog 22 #[.string ⟨#[101, 110, 100, 115, 45, 119, 105, 116, 104]⟩, .int .i64 n] W fun e w' => e = .returned (.bool (knV [101, 110, 100, 115, 45, 119, 105, 116, 104] n)) ∧ Below W.heap.size W w') := fun W hW => known_any ⟨#[101, 110, 100, 115, 45, 119, 105, 116, 104]⟩ n m W (cell_keep hW hm) (hc.keep hW) (by decide)
 have hnl : n < 9223372036854775807 := by omega
 have Hall : Hid (callT [101, 110, 100, 115, 45, 119, 105, 116, 104] fEnds ls = if rightL ls = true then (if knV [101, 110, 100, 115, 45, 119, 105, 116, 104] n = true then (if errS ls = 0 then fEnds (txs ls) else ([], errS ls)) else ([], 241)) else ([], 2)) := by show _ = _; unfold callT; rw [hn]
 clear he hm hc hr hok hR hsz hn hnm hi
 rcases Bool.eq_false_or_eq_true (rightL ls) with hq | hq
 rotate_left
 ·rw [hq] at Hrt
  have HA : Hid (callT [101, 110, 100, 115, 45, 119, 105, 116, 104] fEnds ls = ([], 2)) := by show _ = _; rw [Hall.out, hq]; rfl
  clear hq Hall
  go_enter Tryz.func7, Tryz.ntmps7
  go_wp2_with fail
  refine Hrt.out.mono ?_
  rintro e w1 ⟨rfl, hb1⟩
  go_wp2
  go_ret2
  exact ⟨.slice none 0 0, by rw [HA.out]; rfl, by rw [HA.out]; exact OwI.nil _ _, hb1⟩
 rw [hq] at Hrt
 rcases Bool.eq_false_or_eq_true (knV [101, 110, 100, 115, 45, 119, 105, 116, 104] n) with hk | hk
 rotate_left
 ·rw [hk] at Hkn
  have HA : Hid (callT [101, 110, 100, 115, 45, 119, 105, 116, 104] fEnds ls = ([], 241)) := by show _ = _; rw [Hall.out, hq, hk]; rfl
  clear hq hk Hall
  go_enter Tryz.func7, Tryz.ntmps7
  go_wp2_with fail
  refine Hrt.out.mono ?_
  rintro e w1 ⟨rfl, hb1⟩
  go_wp2_with fail
  refine (Hkn.out w1 hb1).mono ?_
  rintro e w2 ⟨rfl, hb2⟩
  have hB2 := chain0 hb1 hb2
  go_wp2
  go_ret2
  exact ⟨.slice none 0 0, by rw [HA.out]; rfl, by rw [HA.out]; exact OwI.nil _ _, hB2⟩
 have Hk := hide hk
 have HE : Hid (errS ls = 0 → callT [101, 110, 100, 115, 45, 119, 105, 116, 104] fEnds ls = fEnds (txs ls)) := by show _ → _; intro h; rw [Hall.out, hq, hk, if_pos rfl, if_pos rfl, if_pos h]
 have HE2 : Hid (errS ls ≠ 0 → callT [101, 110, 100, 115, 45, 119, 105, 116, 104] fEnds ls = ([], errS ls)) := by show _ → _; intro h; rw [Hall.out, hq, hk, if_pos rfl, if_pos rfl, if_neg h]
 rw [hk] at Hkn
 have hn0 : 0 < n := by
  rcases Nat.eq_zero_or_pos n with h | h
  ·subst h; rw [show knV [101, 110, 100, 115, 45, 119, 105, 116, 104] 0 = false by decide +kernel] at hk; cases hk
  ·exact h
 clear hq hk Hall
 obtain ⟨y0, hy0⟩ : ∃ y, ls[0]? = some y := ⟨_, List.getElem?_eq_getElem (by have := Hn.out; omega)⟩
 obtain ⟨b0, off0, rfl, hcz⟩ := Hr.out.cellAt 0 y0.v (by simp [hy0])
 clear hcz
 have Hy0 := hide hy0
 have hix0 := ix_rowA b0 off0 n c hn0
 clear hy0
 go_enter Tryz.func7, Tryz.ntmps7
 go_wp2_with fail
 refine Hrt.out.mono ?_
 rintro e w1 ⟨rfl, hb1⟩
 go_wp2_with fail
 refine (Hkn.out w1 hb1).mono ?_
 rintro e w2 ⟨rfl, hb2⟩
 have hB2 := chain0 hb1 hb2
 clear hb1 hb2 Hkn Hrt
 obtain ⟨b1, off1, e1, hcz⟩ := (Hr.out.keep hB2).cellAt 0 y0.v (by simp [Hy0.out])
 injection e1 with e1
 injection e1 with e1 e2
 subst e1 e2
 rw [Nat.add_zero] at hcz
 obtain ⟨ya, yl, yc⟩ := y0
 have hc0 : w2.cell? ⟨b0, off0, none⟩ = some (.slice ya yl.length yc) := hcz
 clear hcz
 go_wp2_with fail
 refine (ofItems_no_ends_with b0 off0 n c _ _ hn0 hc0 ⟨_, _, _, rfl⟩).mono ?_
 rintro e wx ⟨rfl, rfl⟩
 go_wp2_with fail
 refine (ofNumbers_no_ends_with _ _).mono ?_
 rintro e wx ⟨rfl, rfl⟩
 clear hc0 hix0
 go_wp2_with fail
 go_loopw [12, 51] (fun lv iv W => ∃ k : Nat, k ≤ n ∧ iv = .int .i64 k ∧ Hid (∀ x ∈ ls.take k, (strV x.l).2 = 0) ∧ Hid (W.ownsRow w.heap.size 9 1 lv k ((txs (ls.take k)).map Value.string)) ∧ Below w.heap.size w W) (fun _ iv _ => n - (intOf iv).toNat)
 case atStart => exact ⟨0, Nat.zero_le _, rfl, hide (by simp), hide (ow_nil _ _ _ _), hB2⟩
 case round =>
  clear hB2
  obtain ⟨k, hk, rfl, Hz, Ho, hB⟩ := hrel
  by_cases hlt : k < n
  ·have hI : (k : Int) < (n : Int) := by omega
   obtain ⟨x, hx⟩ : ∃ x, ls[k]? = some x := ⟨_, List.getElem?_eq_getElem (by have := Hn.out; omega)⟩
   obtain ⟨b1, off1, e1, hcz⟩ := (Hr.out.keep hB).cellAt k x.v (by simp [hx])
   injection e1 with e1
   injection e1 with e1 e2
   subst e1 e2
   have hix := ix_row b0 off0 n c k hlt
   have Hx := hide hx
   have Hokx := hide (Hok.out x (List.mem_of_getElem? hx))
   have HRx := hide (HR.out x (List.mem_of_getElem? hx))
   clear hx
   obtain ⟨xa, xl, xc⟩ := x
   obtain ⟨q, hq⟩ : ∃ q, q = xl.length := ⟨_, rfl⟩
   have hcx : wr.cell? ⟨b0, off0 + k, none⟩ = some (.slice xa q xc) := by rw [hq]; exact hcz
   clear hcz
   have Hq := hide hq
   clear hq
   go_wp2_with fail
   refine (string_any xa q xc xl _ (He.out.keep hB) ⟨Hokx.out.1.keep hB, Hokx.out.2⟩ HRx.out Hq.out).mono ?_
   rintro e w4 ⟨rfl, hb4⟩
   have hB4 := chain0 hB hb4
   have Ho4 := hide (ow_keep Ho.out hb4)
   clear hb4 hB hcx hix Ho
   by_cases hz0 : (strV xl).2 = 0
   ·have Hz2 : Hid (∀ x ∈ ls.take (k + 1), (strV x.l).2 = 0) := by
     show ∀ x ∈ _, _
     intro x hx
     rw [List.take_add_one, Hx.out] at hx
     rcases List.mem_append.1 hx with hx | hx
     ·exact Hz.out x hx
     ·simp at hx; subst hx; exact hz0
    have Htk : Hid (txs (ls.take (k + 1)) = txs (ls.take k) ++ [(strV xl).1]) := by show _ = _; rw [List.take_add_one, Hx.out]; simp [txs]
    rw [hz0]
    generalize (strV xl).1 = sx at *
    have hrd := Rd.new w4 9 [.string sx]
    have hk6 := (Below.refl w4.heap.size w4).alloc (Nat.le_refl _) (.cells #[.string sx] 9)
    have own6 := ow_keep Ho4.out hk6
    have be6 := chain0 hB4 hk6
    have Hrd := hide hrd
    have Own6 := hide own6
    clear hrd hk6 own6 hz0 Hz Ho4 hB4
    go_wp2_with (at_builtin; refine wpList_appR rfl _ _ 50 rfl i0 _ 16 1 Tryz.underlying50 Hi.out.1 Hi.out.2.1 Hi.out.2.2.1 Hi.out.2.2.2 rfl (by decide) rfl rfl ?e1 Own6.out Hrd.out (m := 1) rfl ?e2 ?e3 ?e4 ?_)
    case e1 => intro u hu; simp at hu; subst hu; rfl
    case e2 => have := Hnm.out; omega
    case e3 => have := Hnm.out; omega
    case e4 => exact be6.size
    intro v' W7 hown7 hg7 _
    have Hown7 : Hid (W7.ownsRow w.heap.size 9 1 v' (k + 1) ((txs (ls.take (k + 1))).map Value.string)) := by
     show World.ownsRow _ _ _ _ _ _ _
     rw [Htk.out, List.map_append]; exact hown7
    have hB7 := be6.grown hg7 be6.size (fun k hk => (ow_lt Own6.out k hk).1)
    clear hown7 hg7 Own6 be6 Hrd
    go_wp2
    go_roundw
    case rel => exact ⟨k + 1, by omega, by simp, Hz2, Hown7, hB7⟩
    case measure => simp [intOf]; omega
   ·have hz1 : ((strV xl).2 != 0) = true := by simpa using hz0
    have HEr : Hid (errS ls = (strV xl).2) := errS_at ls k _ Hz.out Hx.out hz0
    have HA : Hid (callT [101, 110, 100, 115, 45, 119, 105, 116, 104] fEnds ls = ([], (strV xl).2)) := by show _ = _; rw [HE2.out (by rw [HEr.out]; exact hz0), HEr.out]
    generalize (strV xl).2 = er at *
    generalize (strV xl).1 = sx at *
    clear hz0 HEr Hz Ho4
    go_wp2
    go_ret2
    exact ⟨.slice none 0 0, by rw [HA.out]; rfl, by rw [HA.out]; exact OwI.nil _ _, hB4⟩
  ·have hI : ¬ (k : Int) < (n : Int) := by omega
   have hkn : k = n := by omega
   have htk : ls.take n = ls := List.take_of_length_le (by have := Hn.out; omega)
   have Hz2 := Hz.out
   have Ho2 := Ho.out
   rw [hkn, htk] at Hz2 Ho2
   have HA := hide (HE.out (errS_no ls Hz2))
   have Hown := hide Ho2
   subst hkn
   have Htl : Hid ((txs ls).length = k) := by show _ = _; rw [Hn.out]; simp [txs]
   have Hts : Hid (∀ t ∈ txs ls, t.size ≤ 100000) := by
    show ∀ t ∈ txs ls, _
    intro t ht
    obtain ⟨x, hx, rfl⟩ := List.mem_map.1 ht
    exact strV_small x.l (HR.out x hx) (Hsz.out x hx)
   clear Hz Ho Hz2 Ho2 htk HE HE2
   obtain ⟨g, cap, rfl, hg, hglt, hcap⟩ := ow_form Hown.out (by omega)
   generalize txs ls = tl at *
   have hk1 : k = 2 := by
    have h := Hk.out
    unfold knV at h
    simp [wK0, wK1, wK2] at h
    omega
   subst hk1
   obtain ⟨t0, t1, rfl⟩ := len_two Htl.out
   have hs0 := Hts.out t0 (by simp)
   have hs1 := Hts.out t1 (by simp)
   have d0 : wr.cell? ⟨g, 0, none⟩ = some (.string t0) := ow_cell Hown.out 0 _ rfl
   have d1 : wr.cell? ⟨g, 1, none⟩ = some (.string t1) := ow_cell Hown.out 1 _ rfl
   have hx0 := ix_str g 0 2 cap 0 (by decide)
   have hx1 := ix_str g 0 2 cap 1 (by decide)
   rw [Nat.zero_add] at hx1
   clear Hts Hk Htl hg hcap
   have Hs0 := hide hs0
   have hbsz := hB.size
   clear hs0 hs1
   go_wp2_with fail
   refine (Tryz.strings_HasSuffix t0 t1 _ (by have := Hs0.out; omega)).mono ?_
   rintro e w8 ⟨rfl, hw8⟩
   have hB8 : Below w.heap.size w w8 := by rw [hw8]; exact hB
   clear hw8
   have HA2 : Hid (callT [101, 110, 100, 115, 45, 119, 105, 116, 104] fEnds ls = ([⟨4, bN (Lib.hasSuffix t0.data.toList t1.data.toList), ⟨#[]⟩, 0⟩], 0)) := by show _ = _; exact HA.out
   clear HA
   have HA := HA2
   clear HA2
   generalize Lib.hasSuffix t0.data.toList t1.data.toList = bq at *
   go_wp2_with fail
   refine (vtruth_own bq _).mono ?_
   rintro e w9 ⟨v9, rfl, ho9, hb9⟩
   have Ho9 := hide (ho9.mono hB8.size)
   have hB9 := chain0 hB8 hb9
   clear hb9 ho9
   go_wp2
   go_ret2
   exact ⟨v9, by rw [HA.out]; rfl, by rw [HA.out]; exact Ho9.out, hB9⟩
end Go.Proofs.YtaieiogmolaebaaGreatDoor
namespace Go.Proofs.YtaieiogmolaebaaGreatDoor
set_option maxRecDepth 100000
set_option maxHeartbeats 4000000
open Go.RowKit
theorem rarity_true (w : World) : Calls Tryz.prog 38 #[.string ⟨#[116, 114, 117, 101]⟩] w fun e w' => e = .returned (.tuple #[.int .i64 0, .int .i64 0, .bool true]) ∧ w = w' := by
 go_enter Tryz.func38, Tryz.ntmps38
 go_wp2
 go_ret3
 exact ⟨rfl, rfl⟩
theorem rarity_false (w : World) : Calls Tryz.prog 38 #[.string ⟨#[102, 97, 108, 115, 101]⟩] w fun e w' => e = .returned (.tuple #[.int .i64 0, .int .i64 0, .bool true]) ∧ w = w' := by
 go_enter Tryz.func38, Tryz.ntmps38
 go_wp2
 go_ret3
 exact ⟨rfl, rfl⟩
theorem rarity_count (w : World) : Calls Tryz.prog 38 #[.string ⟨#[99, 111, 117, 110, 116]⟩] w fun e w' => e = .returned (.tuple #[.int .i64 1, .int .i64 1, .bool true]) ∧ w = w' := by
 go_enter Tryz.func38, Tryz.ntmps38
 go_wp2
 go_ret3
 exact ⟨rfl, rfl⟩
theorem rarity_empty (w : World) : Calls Tryz.prog 38 #[.string ⟨#[101, 109, 112, 116, 121]⟩] w fun e w' => e = .returned (.tuple #[.int .i64 1, .int .i64 1, .bool true]) ∧ w = w' := by
 go_enter Tryz.func38, Tryz.ntmps38
 go_wp2
 go_ret3
 exact ⟨rfl, rfl⟩
theorem rarity_exists (w : World) : Calls Tryz.prog 38 #[.string ⟨#[101, 120, 105, 115, 116, 115]⟩] w fun e w' => e = .returned (.tuple #[.int .i64 1, .int .i64 1, .bool true]) ∧ w = w' := by
 go_enter Tryz.func38, Tryz.ntmps38
 go_wp2
 go_ret3
 exact ⟨rfl, rfl⟩
theorem rarity_not (w : World) : Calls Tryz.prog 38 #[.string ⟨#[110, 111, 116]⟩] w fun e w' => e = .returned (.tuple #[.int .i64 1, .int .i64 1, .bool true]) ∧ w = w' := by
 go_enter Tryz.func38, Tryz.ntmps38
 go_wp2
 go_ret3
 exact ⟨rfl, rfl⟩
theorem rarity_boolean (w : World) : Calls Tryz.prog 38 #[.string ⟨#[98, 111, 111, 108, 101, 97, 110]⟩] w fun e w' => e = .returned (.tuple #[.int .i64 1, .int .i64 1, .bool true]) ∧ w = w' := by
 go_enter Tryz.func38, Tryz.ntmps38
 go_wp2
 go_ret3
 exact ⟨rfl, rfl⟩
theorem rarity_string (w : World) : Calls Tryz.prog 38 #[.string ⟨#[115, 116, 114, 105, 110, 103]⟩] w fun e w' => e = .returned (.tuple #[.int .i64 1, .int .i64 1, .bool true]) ∧ w = w' := by
 go_enter Tryz.func38, Tryz.ntmps38
 go_wp2
 go_ret3
 exact ⟨rfl, rfl⟩
theorem rarity_string_length (w : World) : Calls Tryz.prog 38 #[.string ⟨#[115, 116, 114, 105, 110, 103, 45, 108, 101, 110, 103, 116, 104]⟩] w fun e w' => e = .returned (.tuple #[.int .i64 1, .int .i64 1, .bool true]) ∧ w = w' := by
 go_enter Tryz.func38, Tryz.ntmps38
 go_wp2
 go_ret3
 exact ⟨rfl, rfl⟩
theorem rarity_normalize_space (w : World) : Calls Tryz.prog 38 #[.string ⟨#[110, 111, 114, 109, 97, 108, 105, 122, 101, 45, 115, 112, 97, 99, 101]⟩] w fun e w' => e = .returned (.tuple #[.int .i64 1, .int .i64 1, .bool true]) ∧ w = w' := by
 go_enter Tryz.func38, Tryz.ntmps38
 go_wp2
 go_ret3
 exact ⟨rfl, rfl⟩
theorem rarity_upper_case (w : World) : Calls Tryz.prog 38 #[.string ⟨#[117, 112, 112, 101, 114, 45, 99, 97, 115, 101]⟩] w fun e w' => e = .returned (.tuple #[.int .i64 1, .int .i64 1, .bool true]) ∧ w = w' := by
 go_enter Tryz.func38, Tryz.ntmps38
 go_wp2
 go_ret3
 exact ⟨rfl, rfl⟩
theorem rarity_lower_case (w : World) : Calls Tryz.prog 38 #[.string ⟨#[108, 111, 119, 101, 114, 45, 99, 97, 115, 101]⟩] w fun e w' => e = .returned (.tuple #[.int .i64 1, .int .i64 1, .bool true]) ∧ w = w' := by
 go_enter Tryz.func38, Tryz.ntmps38
 go_wp2
 go_ret3
 exact ⟨rfl, rfl⟩
theorem rarity_number (w : World) : Calls Tryz.prog 38 #[.string ⟨#[110, 117, 109, 98, 101, 114]⟩] w fun e w' => e = .returned (.tuple #[.int .i64 1, .int .i64 1, .bool true]) ∧ w = w' := by
 go_enter Tryz.func38, Tryz.ntmps38
 go_wp2
 go_ret3
 exact ⟨rfl, rfl⟩
theorem rarity_sum (w : World) : Calls Tryz.prog 38 #[.string ⟨#[115, 117, 109]⟩] w fun e w' => e = .returned (.tuple #[.int .i64 1, .int .i64 1, .bool true]) ∧ w = w' := by
 go_enter Tryz.func38, Tryz.ntmps38
 go_wp2
 go_ret3
 exact ⟨rfl, rfl⟩
theorem rarity_min (w : World) : Calls Tryz.prog 38 #[.string ⟨#[109, 105, 110]⟩] w fun e w' => e = .returned (.tuple #[.int .i64 1, .int .i64 1, .bool true]) ∧ w = w' := by
 go_enter Tryz.func38, Tryz.ntmps38
 go_wp2
 go_ret3
 exact ⟨rfl, rfl⟩
theorem rarity_max (w : World) : Calls Tryz.prog 38 #[.string ⟨#[109, 97, 120]⟩] w fun e w' => e = .returned (.tuple #[.int .i64 1, .int .i64 1, .bool true]) ∧ w = w' := by
 go_enter Tryz.func38, Tryz.ntmps38
 go_wp2
 go_ret3
 exact ⟨rfl, rfl⟩
theorem rarity_abs (w : World) : Calls Tryz.prog 38 #[.string ⟨#[97, 98, 115]⟩] w fun e w' => e = .returned (.tuple #[.int .i64 1, .int .i64 1, .bool true]) ∧ w = w' := by
 go_enter Tryz.func38, Tryz.ntmps38
 go_wp2
 go_ret3
 exact ⟨rfl, rfl⟩
theorem rarity_distinct_values (w : World) : Calls Tryz.prog 38 #[.string ⟨#[100, 105, 115, 116, 105, 110, 99, 116, 45, 118, 97, 108, 117, 101, 115]⟩] w fun e w' => e = .returned (.tuple #[.int .i64 1, .int .i64 1, .bool true]) ∧ w = w' := by
 go_enter Tryz.func38, Tryz.ntmps38
 go_wp2
 go_ret3
 exact ⟨rfl, rfl⟩
theorem rarity_reverse (w : World) : Calls Tryz.prog 38 #[.string ⟨#[114, 101, 118, 101, 114, 115, 101]⟩] w fun e w' => e = .returned (.tuple #[.int .i64 1, .int .i64 1, .bool true]) ∧ w = w' := by
 go_enter Tryz.func38, Tryz.ntmps38
 go_wp2
 go_ret3
 exact ⟨rfl, rfl⟩
theorem rarity_contains (w : World) : Calls Tryz.prog 38 #[.string ⟨#[99, 111, 110, 116, 97, 105, 110, 115]⟩] w fun e w' => e = .returned (.tuple #[.int .i64 2, .int .i64 2, .bool true]) ∧ w = w' := by
 go_enter Tryz.func38, Tryz.ntmps38
 go_wp2
 go_ret3
 exact ⟨rfl, rfl⟩
theorem rarity_starts_with (w : World) : Calls Tryz.prog 38 #[.string ⟨#[115, 116, 97, 114, 116, 115, 45, 119, 105, 116, 104]⟩] w fun e w' => e = .returned (.tuple #[.int .i64 2, .int .i64 2, .bool true]) ∧ w = w' := by
 go_enter Tryz.func38, Tryz.ntmps38
 go_wp2
 go_ret3
 exact ⟨rfl, rfl⟩
theorem rarity_ends_with (w : World) : Calls Tryz.prog 38 #[.string ⟨#[101, 110, 100, 115, 45, 119, 105, 116, 104]⟩] w fun e w' => e = .returned (.tuple #[.int .i64 2, .int .i64 2, .bool true]) ∧ w = w' := by
 go_enter Tryz.func38, Tryz.ntmps38
 go_wp2
 go_ret3
 exact ⟨rfl, rfl⟩
theorem rarity_string_join (w : World) : Calls Tryz.prog 38 #[.string ⟨#[115, 116, 114, 105, 110, 103, 45, 106, 111, 105, 110]⟩] w fun e w' => e = .returned (.tuple #[.int .i64 1, .int .i64 2, .bool true]) ∧ w = w' := by
 go_enter Tryz.func38, Tryz.ntmps38
 go_wp2
 go_ret3
 exact ⟨rfl, rfl⟩
theorem rarity_substring (w : World) : Calls Tryz.prog 38 #[.string ⟨#[115, 117, 98, 115, 116, 114, 105, 110, 103]⟩] w fun e w' => e = .returned (.tuple #[.int .i64 2, .int .i64 3, .bool true]) ∧ w = w' := by
 go_enter Tryz.func38, Tryz.ntmps38
 go_wp2
 go_ret3
 exact ⟨rfl, rfl⟩
theorem rarity_concat (w : World) : Calls Tryz.prog 38 #[.string ⟨#[99, 111, 110, 99, 97, 116]⟩] w fun e w' => e = .returned (.tuple #[.int .i64 2, .int .i64 60, .bool true]) ∧ w = w' := by
 go_enter Tryz.func38, Tryz.ntmps38
 go_wp2
 go_ret3
 exact ⟨rfl, rfl⟩
theorem rarity_no (s : ByteArray) (w : World) (h0 : (s.toList == [116, 114, 117, 101]) = false) (h1 : (s.toList == [102, 97, 108, 115, 101]) = false) (h2 : (s.toList == [99, 111, 117, 110, 116]) = false) (h3 : (s.toList == [101, 109, 112, 116, 121]) = false) (h4 : (s.toList == [101, 120, 105, 115, 116, 115]) = false) (h5 : (s.toList == [110, 111, 116]) = false) (h6 : (s.toList == [98, 111, 111, 108, 101, 97, 110]) = false) (h7 : (s.toList == [115, 116, 114, 105, 110, 103]) = false) (h8 : (s.toList == [115, 116, 114, 105, 110, 103, 45, 108, 101, 110, 103, 116, 104]) = false) (h9 : (s.toList == [110, 111, 114, 109, 97, 108, 105, 122, 101, 45, 115, 112, 97, 99, 101]) = false) (h10 : (s.toList == [117, 112, 112, 101, 114, 45, 99, 97, 115, 101]) = false) (h11 : (s.toList == [108, 111, 119, 101, 114, 45, 99, 97, 115, 101]) = false) (h12 : (s.toList == [110, 117, 109, 98, 101, 114]) = false) (h13 : (s.toList == [115, 117, 109]) = false) (h14 : (s.toList == [109, 105, 110]) = false) (h15 : (s.toList == [109, 97, 120]) = false) (h16 : (s.toList == [97, 98, 115]) = false) (h17 : (s.toList == [100, 105, 115, 116, 105, 110, 99, 116, 45, 118, 97, 108, 117, 101, 115]) = false) (h18 : (s.toList == [114, 101, 118, 101, 114, 115, 101]) = false) (h19 : (s.toList == [99, 111, 110, 116, 97, 105, 110, 115]) = false) (h20 : (s.toList == [115, 116, 97, 114, 116, 115, 45, 119, 105, 116, 104]) = false) (h21 : (s.toList == [101, 110, 100, 115, 45, 119, 105, 116, 104]) = false) (h22 : (s.toList == [115, 116, 114, 105, 110, 103, 45, 106, 111, 105, 110]) = false) (h23 : (s.toList == [115, 117, 98, 115, 116, 114, 105, 110, 103]) = false) (h24 : (s.toList == [99, 111, 110, 99, 97, 116]) = false) : Calls Tryz.prog 38 #[.string s] w fun e w' => e = .returned (.tuple #[.int .i64 0, .int .i64 0, .bool false]) ∧ w = w' := by
 have g0 : ¬ s.toList = [116, 114, 117, 101] := by simpa using h0
 have g1 : ¬ s.toList = [102, 97, 108, 115, 101] := by simpa using h1
 have g2 : ¬ s.toList = [99, 111, 117, 110, 116] := by simpa using h2
 have g3 : ¬ s.toList = [101, 109, 112, 116, 121] := by simpa using h3
 have g4 : ¬ s.toList = [101, 120, 105, 115, 116, 115] := by simpa using h4
 have g5 : ¬ s.toList = [110, 111, 116] := by simpa using h5
 have g6 : ¬ s.toList = [98, 111, 111, 108, 101, 97, 110] := by simpa using h6
 have g7 : ¬ s.toList = [115, 116, 114, 105, 110, 103] := by simpa using h7
 have g8 : ¬ s.toList = [115, 116, 114, 105, 110, 103, 45, 108, 101, 110, 103, 116, 104] := by simpa using h8
 have g9 : ¬ s.toList = [110, 111, 114, 109, 97, 108, 105, 122, 101, 45, 115, 112, 97, 99, 101] := by simpa using h9
 have g10 : ¬ s.toList = [117, 112, 112, 101, 114, 45, 99, 97, 115, 101] := by simpa using h10
 have g11 : ¬ s.toList = [108, 111, 119, 101, 114, 45, 99, 97, 115, 101] := by simpa using h11
 have g12 : ¬ s.toList = [110, 117, 109, 98, 101, 114] := by simpa using h12
 have g13 : ¬ s.toList = [115, 117, 109] := by simpa using h13
 have g14 : ¬ s.toList = [109, 105, 110] := by simpa using h14
 have g15 : ¬ s.toList = [109, 97, 120] := by simpa using h15
 have g16 : ¬ s.toList = [97, 98, 115] := by simpa using h16
 have g17 : ¬ s.toList = [100, 105, 115, 116, 105, 110, 99, 116, 45, 118, 97, 108, 117, 101, 115] := by simpa using h17
 have g18 : ¬ s.toList = [114, 101, 118, 101, 114, 115, 101] := by simpa using h18
 have g19 : ¬ s.toList = [99, 111, 110, 116, 97, 105, 110, 115] := by simpa using h19
 have g20 : ¬ s.toList = [115, 116, 97, 114, 116, 115, 45, 119, 105, 116, 104] := by simpa using h20
 have g21 : ¬ s.toList = [101, 110, 100, 115, 45, 119, 105, 116, 104] := by simpa using h21
 have g22 : ¬ s.toList = [115, 116, 114, 105, 110, 103, 45, 106, 111, 105, 110] := by simpa using h22
 have g23 : ¬ s.toList = [115, 117, 98, 115, 116, 114, 105, 110, 103] := by simpa using h23
 have g24 : ¬ s.toList = [99, 111, 110, 99, 97, 116] := by simpa using h24
 go_enter Tryz.func38, Tryz.ntmps38
 go_wp2
 go_ret3
 exact ⟨rfl, rfl⟩
end Go.Proofs.YtaieiogmolaebaaGreatDoor
