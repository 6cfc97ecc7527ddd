/- value.Call at sum, min, max, number, abs. -/
import Derived.Test.YtaieiogmolaebaaGreatDoorC23
import Derived.Test.YtaieiogmolaebaaGreatDoorC24
namespace Go.Proofs.YtaieiogmolaebaaGreatDoor
set_option maxRecDepth 100000
set_option maxHeartbeats 4000000
open Go.RowKit
theorem ofItems_no_sum (b off n c : Nat) (v : Value) (w : World) (hn : 0 < n) (h0 : w.cell? ⟨b, off, none⟩ = some v) (hv : ∃ a k d, v = .slice a k d) : Calls Tryz.prog 23 #[.string ⟨#[115, 117, 109]⟩, .slice (some ⟨b, off, none⟩) n c] w fun e w' => e = .returned (.tuple #[.slice none 0 0, .int .i64 0, .bool false]) ∧ w = w' := by
 have hix := ix_rowA b off n c hn
 have hn1 : ¬ (n : Int) = 0 := by omega
 have hn2 : ((n : Int) == 0) = false := by simpa using hn1
 have hn3 : ¬ n = 0 := by omega
 obtain ⟨a, k, d, rfl⟩ := hv
 clear hn
 go_enter Tryz.func23, Tryz.ntmps23
 go_wp2
 go_ret3
 exact ⟨rfl, rfl⟩
theorem callO_sum (p : Option Addr) (n c : Nat) (ls : List Lst) (m : Int) (w : World) (he : Env w) (hm : w.cell? ⟨3, 0, none⟩ = some (.int .i64 m)) (hc : Counts w) (hr : Rd w p (ls.map Lst.v)) (hok : OkAs w ls)
  (hR : ∀ x ∈ ls, ∀ y ∈ x.l, R64 y.num) (hn : n = ls.length) (hnm : n ≤ 1000000) :
  Calls Tryz.prog 7 #[.string ⟨#[115, 117, 109]⟩, .slice p n c] w (Res w (callO [115, 117, 109] fSum ls).1 (callO [115, 117, 109] fSum ls).2) := by
 have He := hide he
 have Hr := hide hr
 have Hok := hide hok
 have Hn := hide hn
 have HR := hide hR
 have Hrt := hide (right_any p n c ls w he.t8 hn (by omega) hr hok)
 have Hkn : Hid (∀ W, Below w.heap.size w W → Calls Tryz.prog 22 #[.string ⟨#[115, 117, 109]⟩, .int .i64 n] W fun e w' => e = .returned (.bool (knV [115, 117, 109] n)) ∧ Below W.heap.size W w') := fun W hW => known_any ⟨#[115, 117, 109]⟩ n m W (cell_keep hW hm) (hc.keep hW) (by decide)
 have hnl : n < 9223372036854775807 := by omega
 have Hall : Hid (callO [115, 117, 109] fSum ls = if rightL ls = true then (if knV [115, 117, 109] n = true then one1 fSum ls else ([], 241)) else ([], 2)) := by show _ = _; unfold callO; rw [hn]
 clear he hm hc hr hok hR hn hnm
 rcases Bool.eq_false_or_eq_true (rightL ls) with hq | hq
 rotate_left
 ·rw [hq] at Hrt
  have HA : Hid (callO [115, 117, 109] fSum ls = ([], 2)) := by show _ = _; rw [Hall.out, hq]; rfl
  clear hq Hall
  go_enter Tryz.func7, Tryz.ntmps7
  go_wp2_with fail
  refine Hrt.out.mono ?_
  rintro e w1 ⟨rfl, hb1⟩
  go_wp2
  go_ret2
  exact ⟨.slice none 0 0, by rw [HA.out]; rfl, by rw [HA.out]; exact OwI.nil _ _, hb1⟩
 rw [hq] at Hrt
 rcases Bool.eq_false_or_eq_true (knV [115, 117, 109] n) with hk | hk
 rotate_left
 ·rw [hk] at Hkn
  have HA : Hid (callO [115, 117, 109] fSum ls = ([], 241)) := by show _ = _; rw [Hall.out, hq, hk]; rfl
  clear hq hk Hall
  go_enter Tryz.func7, Tryz.ntmps7
  go_wp2_with fail
  refine Hrt.out.mono ?_
  rintro e w1 ⟨rfl, hb1⟩
  go_wp2_with fail
  refine (Hkn.out w1 hb1).mono ?_
  rintro e w2 ⟨rfl, hb2⟩
  have hB2 := chain0 hb1 hb2
  go_wp2
  go_ret2
  exact ⟨.slice none 0 0, by rw [HA.out]; rfl, by rw [HA.out]; exact OwI.nil _ _, hB2⟩
 have HE : Hid (callO [115, 117, 109] fSum ls = one1 fSum ls) := by show _ = _; rw [Hall.out, hq, hk, if_pos rfl, if_pos rfl]
 rw [hk] at Hkn
 have hn1 : ls.length = 1 := by
  rw [← Hn.out]
  unfold knV at hk
  simp [wK0, wK1] at hk
  omega
 clear hq hk Hall
 obtain ⟨la, rfl⟩ := len_1 hn1
 have hn2 : n = 1 := Hn.out
 subst hn2
 obtain ⟨b0, off0, rfl, hcz⟩ := Hr.out.cellAt 0 la.v rfl
 clear hcz hn1
 have hix0 := ix_rowA b0 off0 1 c (by decide)
 go_enter Tryz.func7, Tryz.ntmps7
 go_wp2_with fail
 refine Hrt.out.mono ?_
 rintro e w1 ⟨rfl, hb1⟩
 go_wp2_with fail
 refine (Hkn.out w1 hb1).mono ?_
 rintro e w2 ⟨rfl, hb2⟩
 have hB2 := chain0 hb1 hb2
 clear hb1 hb2 Hkn Hrt
 obtain ⟨b1, off1, e1, hcz⟩ := (Hr.out.keep hB2).cellAt 0 la.v rfl
 injection e1 with e1
 injection e1 with e1 e2
 subst e1 e2
 rw [Nat.add_zero] at hcz
 obtain ⟨ya, yl, yc⟩ := la
 obtain ⟨q, hq⟩ : ∃ q, q = yl.length := ⟨_, rfl⟩
 have hc0 : w2.cell? ⟨b0, off0, none⟩ = some (.slice ya q yc) := by rw [hq]; exact hcz
 clear hcz
 have Hq := hide hq
 clear hq
 go_wp2_with fail
 refine (ofItems_no_sum b0 off0 1 c _ _ (by decide) hc0 ⟨_, _, _, rfl⟩).mono ?_
 rintro e wx ⟨rfl, rfl⟩
 go_wp2_with fail
 refine (ofNumbers_sum ya q yc yl _ (He.out.keep hB2) ⟨(Hok.out _ (List.mem_singleton.2 rfl)).1.keep hB2, (Hok.out _ (List.mem_singleton.2 rfl)).2⟩ (HR.out _ (List.mem_singleton.2 rfl)) Hq.out).mono ?_
 rintro e w3 ⟨v, rfl, ho, hb3⟩
 have Ho := hide (ho.mono hB2.size)
 have hB3 := chain0 hB2 hb3
 clear ho hb3
 have HE2 : Hid (callO [115, 117, 109] fSum [⟨ya, yl, yc⟩] = fSum yl) := HE.out
 generalize fSum yl = sv at *
 obtain ⟨s1, s2⟩ := sv
 go_wp2
 go_ret2
 exact ⟨v, by rw [HE2.out]; rfl, by rw [HE2.out]; exact Ho.out, hB3⟩
theorem ofItems_no_min (b off n c : Nat) (v : Value) (w : World) (hn : 0 < n) (h0 : w.cell? ⟨b, off, none⟩ = some v) (hv : ∃ a k d, v = .slice a k d) : Calls Tryz.prog 23 #[.string ⟨#[109, 105, 110]⟩, .slice (some ⟨b, off, none⟩) n c] w fun e w' => e = .returned (.tuple #[.slice none 0 0, .int .i64 0, .bool false]) ∧ w = w' := by
 have hix := ix_rowA b off n c hn
 have hn1 : ¬ (n : Int) = 0 := by omega
 have hn2 : ((n : Int) == 0) = false := by simpa using hn1
 have hn3 : ¬ n = 0 := by omega
 obtain ⟨a, k, d, rfl⟩ := hv
 clear hn
 go_enter Tryz.func23, Tryz.ntmps23
 go_wp2
 go_ret3
 exact ⟨rfl, rfl⟩
theorem callO_min (p : Option Addr) (n c : Nat) (ls : List Lst) (m : Int) (w : World) (he : Env w) (hm : w.cell? ⟨3, 0, none⟩ = some (.int .i64 m)) (hc : Counts w) (hr : Rd w p (ls.map Lst.v)) (hok : OkAs w ls)
  (hR : ∀ x ∈ ls, ∀ y ∈ x.l, R64 y.num) (hn : n = ls.length) (hnm : n ≤ 1000000) :
  Calls Tryz.prog 7 #[.string ⟨#[109, 105, 110]⟩, .slice p n c] w (Res w (callO [109, 105, 110] fMin ls).1 (callO [109, 105, 110] fMin ls).2) := by
 have He := hide he
 have Hr := hide hr
 have Hok := hide hok
 have Hn := hide hn
 have HR := hide hR
 have Hrt := hide (right_any p n c ls w he.t8 hn (by omega) hr hok)
 have Hkn : Hid (∀ W, Below w.heap.size w W → Calls Tryz.prog 22 #[.string ⟨#[109, 105, 110]⟩, .int .i64 n] W fun e w' => e = .returned (.bool (knV [109, 105, 110] n)) ∧ Below W.heap.size W w') := fun W hW => known_any ⟨#[109, 105, 110]⟩ n m W (cell_keep hW hm) (hc.keep hW) (by decide)
 have hnl : n < 9223372036854775807 := by omega
 have Hall : Hid (callO [109, 105, 110] fMin ls = if rightL ls = true then (if knV [109, 105, 110] n = true then one1 fMin ls else ([], 241)) else ([], 2)) := by show _ = _; unfold callO; rw [hn]
 clear he hm hc hr hok hR hn hnm
 rcases Bool.eq_false_or_eq_true (rightL ls) with hq | hq
 rotate_left
 ·rw [hq] at Hrt
  have HA : Hid (callO [109, 105, 110] fMin ls = ([], 2)) := by show _ = _; rw [Hall.out, hq]; rfl
  clear hq Hall
  go_enter Tryz.func7, Tryz.ntmps7
  go_wp2_with fail
  refine Hrt.out.mono ?_
  rintro e w1 ⟨rfl, hb1⟩
  go_wp2
  go_ret2
  exact ⟨.slice none 0 0, by rw [HA.out]; rfl, by rw [HA.out]; exact OwI.nil _ _, hb1⟩
 rw [hq] at Hrt
 rcases Bool.eq_false_or_eq_true (knV [109, 105, 110] n) with hk | hk
 rotate_left
 ·rw [hk] at Hkn
  have HA : Hid (callO [109, 105, 110] fMin ls = ([], 241)) := by show _ = _; rw [Hall.out, hq, hk]; rfl
  clear hq hk Hall
  go_enter Tryz.func7, Tryz.ntmps7
  go_wp2_with fail
  refine Hrt.out.mono ?_
  rintro e w1 ⟨rfl, hb1⟩
  go_wp2_with fail
  refine (Hkn.out w1 hb1).mono ?_
  rintro e w2 ⟨rfl, hb2⟩
  have hB2 := chain0 hb1 hb2
  go_wp2
  go_ret2
  exact ⟨.slice none 0 0, by rw [HA.out]; rfl, by rw [HA.out]; exact OwI.nil _ _, hB2⟩
 have HE : Hid (callO [109, 105, 110] fMin ls = one1 fMin ls) := by show _ = _; rw [Hall.out, hq, hk, if_pos rfl, if_pos rfl]
 rw [hk] at Hkn
 have hn1 : ls.length = 1 := by
  rw [← Hn.out]
  unfold knV at hk
  simp [wK0, wK1] at hk
  omega
 clear hq hk Hall
 obtain ⟨la, rfl⟩ := len_1 hn1
 have hn2 : n = 1 := Hn.out
 subst hn2
 obtain ⟨b0, off0, rfl, hcz⟩ := Hr.out.cellAt 0 la.v rfl
 clear hcz hn1
 have hix0 := ix_rowA b0 off0 1 c (by decide)
 go_enter Tryz.func7, Tryz.ntmps7
 go_wp2_with fail
 refine Hrt.out.mono ?_
 rintro e w1 ⟨rfl, hb1⟩
 go_wp2_with fail
 refine (Hkn.out w1 hb1).mono ?_
 rintro e w2 ⟨rfl, hb2⟩
 have hB2 := chain0 hb1 hb2
 clear hb1 hb2 Hkn Hrt
 obtain ⟨b1, off1, e1, hcz⟩ := (Hr.out.keep hB2).cellAt 0 la.v rfl
 injection e1 with e1
 injection e1 with e1 e2
 subst e1 e2
 rw [Nat.add_zero] at hcz
 obtain ⟨ya, yl, yc⟩ := la
 obtain ⟨q, hq⟩ : ∃ q, q = yl.length := ⟨_, rfl⟩
 have hc0 : w2.cell? ⟨b0, off0, none⟩ = some (.slice ya q yc) := by rw [hq]; exact hcz
 clear hcz
 have Hq := hide hq
 clear hq
 go_wp2_with fail
 refine (ofItems_no_min b0 off0 1 c _ _ (by decide) hc0 ⟨_, _, _, rfl⟩).mono ?_
 rintro e wx ⟨rfl, rfl⟩
 go_wp2_with fail
 refine (ofNumbers_min ya q yc yl _ (He.out.keep hB2) ⟨(Hok.out _ (List.mem_singleton.2 rfl)).1.keep hB2, (Hok.out _ (List.mem_singleton.2 rfl)).2⟩ (HR.out _ (List.mem_singleton.2 rfl)) Hq.out).mono ?_
 rintro e w3 ⟨v, rfl, ho, hb3⟩
 have Ho := hide (ho.mono hB2.size)
 have hB3 := chain0 hB2 hb3
 clear ho hb3
 have HE2 : Hid (callO [109, 105, 110] fMin [⟨ya, yl, yc⟩] = fMin yl) := HE.out
 generalize fMin yl = sv at *
 obtain ⟨s1, s2⟩ := sv
 go_wp2
 go_ret2
 exact ⟨v, by rw [HE2.out]; rfl, by rw [HE2.out]; exact Ho.out, hB3⟩
theorem ofItems_no_max (b off n c : Nat) (v : Value) (w : World) (hn : 0 < n) (h0 : w.cell? ⟨b, off, none⟩ = some v) (hv : ∃ a k d, v = .slice a k d) : Calls Tryz.prog 23 #[.string ⟨#[109, 97, 120]⟩, .slice (some ⟨b, off, none⟩) n c] w fun e w' => e = .returned (.tuple #[.slice none 0 0, .int .i64 0, .bool false]) ∧ w = w' := by
 have hix := ix_rowA b off n c hn
 have hn1 : ¬ (n : Int) = 0 := by omega
 have hn2 : ((n : Int) == 0) = false := by simpa using hn1
 have hn3 : ¬ n = 0 := by omega
 obtain ⟨a, k, d, rfl⟩ := hv
 clear hn
 go_enter Tryz.func23, Tryz.ntmps23
 go_wp2
 go_ret3
 exact ⟨rfl, rfl⟩
theorem callO_max (p : Option Addr) (n c : Nat) (ls : List Lst) (m : Int) (w : World) (he : Env w) (hm : w.cell? ⟨3, 0, none⟩ = some (.int .i64 m)) (hc : Counts w) (hr : Rd w p (ls.map Lst.v)) (hok : OkAs w ls)
  (hR : ∀ x ∈ ls, ∀ y ∈ x.l, R64 y.num) (hn : n = ls.length) (hnm : n ≤ 1000000) :
  Calls Tryz.prog 7 #[.string ⟨#[109, 97, 120]⟩, .slice p n c] w (Res w (callO [109, 97, 120] fMax ls).1 (callO [109, 97, 120] fMax ls).2) := by
 have He := hide he
 have Hr := hide hr
 have Hok := hide hok
 have Hn := hide hn
 have HR := hide hR
 have Hrt := hide (right_any p n c ls w he.t8 hn (by omega) hr hok)
 have Hkn : Hid (∀ W, Below w.heap.size w W → Calls Tryz.prog 22 #[.string ⟨#[109, 97, 120]⟩, .int .i64 n] W fun e w' => e = .returned (.bool (knV [109, 97, 120] n)) ∧ Below W.heap.size W w') := fun W hW => known_any ⟨#[109, 97, 120]⟩ n m W (cell_keep hW hm) (hc.keep hW) (by decide)
 have hnl : n < 9223372036854775807 := by omega
 have Hall : Hid (callO [109, 97, 120] fMax ls = if rightL ls = true then (if knV [109, 97, 120] n = true then one1 fMax ls else ([], 241)) else ([], 2)) := by show _ = _; unfold callO; rw [hn]
 clear he hm hc hr hok hR hn hnm
 rcases Bool.eq_false_or_eq_true (rightL ls) with hq | hq
 rotate_left
 ·rw [hq] at Hrt
  have HA : Hid (callO [109, 97, 120] fMax ls = ([], 2)) := by show _ = _; rw [Hall.out, hq]; rfl
  clear hq Hall
  go_enter Tryz.func7, Tryz.ntmps7
  go_wp2_with fail
  refine Hrt.out.mono ?_
  rintro e w1 ⟨rfl, hb1⟩
  go_wp2
  go_ret2
  exact ⟨.slice none 0 0, by rw [HA.out]; rfl, by rw [HA.out]; exact OwI.nil _ _, hb1⟩
 rw [hq] at Hrt
 rcases Bool.eq_false_or_eq_true (knV [109, 97, 120] n) with hk | hk
 rotate_left
 ·rw [hk] at Hkn
  have HA : Hid (callO [109, 97, 120] fMax ls = ([], 241)) := by show _ = _; rw [Hall.out, hq, hk]; rfl
  clear hq hk Hall
  go_enter Tryz.func7, Tryz.ntmps7
  go_wp2_with fail
  refine Hrt.out.mono ?_
  rintro e w1 ⟨rfl, hb1⟩
  go_wp2_with fail
  refine (Hkn.out w1 hb1).mono ?_
  rintro e w2 ⟨rfl, hb2⟩
  have hB2 := chain0 hb1 hb2
  go_wp2
  go_ret2
  exact ⟨.slice none 0 0, by rw [HA.out]; rfl, by rw [HA.out]; exact OwI.nil _ _, hB2⟩
 have HE : Hid (callO [109, 97, 120] fMax ls = one1 fMax ls) := by show _ = _; rw [Hall.out, hq, hk, if_pos rfl, if_pos rfl]
 rw [hk] at Hkn
 have hn1 : ls.length = 1 := by
  rw [← Hn.out]
  unfold knV at hk
  simp [wK0, wK1] at hk
  omega
 clear hq hk Hall
 obtain ⟨la, rfl⟩ := len_1 hn1
 have hn2 : n = 1 := Hn.out
 subst hn2
 obtain ⟨b0, off0, rfl, hcz⟩ := Hr.out.cellAt 0 la.v rfl
 clear hcz hn1
 have hix0 := ix_rowA b0 off0 1 c (by decide)
 go_enter Tryz.func7, Tryz.ntmps7
 go_wp2_with fail
 refine Hrt.out.mono ?_
 rintro e w1 ⟨rfl, hb1⟩
 go_wp2_with fail
 refine (Hkn.out w1 hb1).mono ?_
 rintro e w2 ⟨rfl, hb2⟩
 have hB2 := chain0 hb1 hb2
 clear hb1 hb2 Hkn Hrt
 obtain ⟨b1, off1, e1, hcz⟩ := (Hr.out.keep hB2).cellAt 0 la.v rfl
 injection e1 with e1
 injection e1 with e1 e2
 subst e1 e2
 rw [Nat.add_zero] at hcz
 obtain ⟨ya, yl, yc⟩ := la
 obtain ⟨q, hq⟩ : ∃ q, q = yl.length := ⟨_, rfl⟩
 have hc0 : w2.cell? ⟨b0, off0, none⟩ = some (.slice ya q yc) := by rw [hq]; exact hcz
 clear hcz
 have Hq := hide hq
 clear hq
 go_wp2_with fail
 refine (ofItems_no_max b0 off0 1 c _ _ (by decide) hc0 ⟨_, _, _, rfl⟩).mono ?_
 rintro e wx ⟨rfl, rfl⟩
 go_wp2_with fail
 refine (ofNumbers_max ya q yc yl _ (He.out.keep hB2) ⟨(Hok.out _ (List.mem_singleton.2 rfl)).1.keep hB2, (Hok.out _ (List.mem_singleton.2 rfl)).2⟩ (HR.out _ (List.mem_singleton.2 rfl)) Hq.out).mono ?_
 rintro e w3 ⟨v, rfl, ho, hb3⟩
 have Ho := hide (ho.mono hB2.size)
 have hB3 := chain0 hB2 hb3
 clear ho hb3
 have HE2 : Hid (callO [109, 97, 120] fMax [⟨ya, yl, yc⟩] = fMax yl) := HE.out
 generalize fMax yl = sv at *
 obtain ⟨s1, s2⟩ := sv
 go_wp2
 go_ret2
 exact ⟨v, by rw [HE2.out]; rfl, by rw [HE2.out]; exact Ho.out, hB3⟩
theorem ofItems_no_number (b off n c : Nat) (v : Value) (w : World) (hn : 0 < n) (h0 : w.cell? ⟨b, off, none⟩ = some v) (hv : ∃ a k d, v = .slice a k d) : Calls Tryz.prog 23 #[.string ⟨#[110, 117, 109, 98, 101, 114]⟩, .slice (some ⟨b, off, none⟩) n c] w fun e w' => e = .returned (.tuple #[.slice none 0 0, .int .i64 0, .bool false]) ∧ w = w' := by
 have hix := ix_rowA b off n c hn
 have hn1 : ¬ (n : Int) = 0 := by omega
 have hn2 : ((n : Int) == 0) = false := by simpa using hn1
 have hn3 : ¬ n = 0 := by omega
 obtain ⟨a, k, d, rfl⟩ := hv
 clear hn
 go_enter Tryz.func23, Tryz.ntmps23
 go_wp2
 go_ret3
 exact ⟨rfl, rfl⟩
theorem callO_number (p : Option Addr) (n c : Nat) (ls : List Lst) (m : Int) (w : World) (he : Env w) (hm : w.cell? ⟨3, 0, none⟩ = some (.int .i64 m)) (hc : Counts w) (hr : Rd w p (ls.map Lst.v)) (hok : OkAs w ls)
  (hR : ∀ x ∈ ls, ∀ y ∈ x.l, R64 y.num) (hn : n = ls.length) (hnm : n ≤ 1000000) :
  Calls Tryz.prog 7 #[.string ⟨#[110, 117, 109, 98, 101, 114]⟩, .slice p n c] w (Res w (callO [110, 117, 109, 98, 101, 114] fNumber ls).1 (callO [110, 117, 109, 98, 101, 114] fNumber ls).2) := by
 have He := hide he
 have Hr := hide hr
 have Hok := hide hok
 have Hn := hide hn
 have HR := hide hR
 have Hrt := hide (right_any p n c ls w he.t8 hn (by omega) hr hok)
 have Hkn : Hid (∀ W, Below w.heap.size w W → Calls Tryz.prog 22 #[.string ⟨#[110, 117, 109, 98, 101, 114]⟩, .int .i64 n] W fun e w' => e = .returned (.bool (knV [110, 117, 109, 98, 101, 114] n)) ∧ Below W.heap.size W w') := fun W hW => known_any ⟨#[110, 117, 109, 98, 101, 114]⟩ n m W (cell_keep hW hm) (hc.keep hW) (by decide)
 have hnl : n < 9223372036854775807 := by omega
 have Hall : Hid (callO [110, 117, 109, 98, 101, 114] fNumber ls = if rightL ls = true then (if knV [110, 117, 109, 98, 101, 114] n = true then one1 fNumber ls else ([], 241)) else ([], 2)) := by show _ = _; unfold callO; rw [hn]
 clear he hm hc hr hok hR hn hnm
 rcases Bool.eq_false_or_eq_true (rightL ls) with hq | hq
 rotate_left
 ·rw [hq] at Hrt
  have HA : Hid (callO [110, 117, 109, 98, 101, 114] fNumber ls = ([], 2)) := by show _ = _; rw [Hall.out, hq]; rfl
  clear hq Hall
  go_enter Tryz.func7, Tryz.ntmps7
  go_wp2_with fail
  refine Hrt.out.mono ?_
  rintro e w1 ⟨rfl, hb1⟩
  go_wp2
  go_ret2
  exact ⟨.slice none 0 0, by rw [HA.out]; rfl, by rw [HA.out]; exact OwI.nil _ _, hb1⟩
 rw [hq] at Hrt
 rcases Bool.eq_false_or_eq_true (knV [110, 117, 109, 98, 101, 114] n) with hk | hk
 rotate_left
 ·rw [hk] at Hkn
  have HA : Hid (callO [110, 117, 109, 98, 101, 114] fNumber ls = ([], 241)) := by show _ = _; rw [Hall.out, hq, hk]; rfl
  clear hq hk Hall
  go_enter Tryz.func7, Tryz.ntmps7
  go_wp2_with fail
  refine Hrt.out.mono ?_
  rintro e w1 ⟨rfl, hb1⟩
  go_wp2_with fail
  refine (Hkn.out w1 hb1).mono ?_
  rintro e w2 ⟨rfl, hb2⟩
  have hB2 := chain0 hb1 hb2
  go_wp2
  go_ret2
  exact ⟨.slice none 0 0, by rw [HA.out]; rfl, by rw [HA.out]; exact OwI.nil _ _, hB2⟩
 have HE : Hid (callO [110, 117, 109, 98, 101, 114] fNumber ls = one1 fNumber ls) := by show _ = _; rw [Hall.out, hq, hk, if_pos rfl, if_pos rfl]
 rw [hk] at Hkn
 have hn1 : ls.length = 1 := by
  rw [← Hn.out]
  unfold knV at hk
  simp [wK0, wK1] at hk
  omega
 clear hq hk Hall
 obtain ⟨la, rfl⟩ := len_1 hn1
 have hn2 : n = 1 := Hn.out
 subst hn2
 obtain ⟨b0, off0, rfl, hcz⟩ := Hr.out.cellAt 0 la.v rfl
 clear hcz hn1
 have hix0 := ix_rowA b0 off0 1 c (by decide)
 go_enter Tryz.func7, Tryz.ntmps7
 go_wp2_with fail
 refine Hrt.out.mono ?_
 rintro e w1 ⟨rfl, hb1⟩
 go_wp2_with fail
 refine (Hkn.out w1 hb1).mono ?_
 rintro e w2 ⟨rfl, hb2⟩
 have hB2 := chain0 hb1 hb2
 clear hb1 hb2 Hkn Hrt
 obtain ⟨b1, off1, e1, hcz⟩ := (Hr.out.keep hB2).cellAt 0 la.v rfl
 injection e1 with e1
 injection e1 with e1 e2
 subst e1 e2
 rw [Nat.add_zero] at hcz
 obtain ⟨ya, yl, yc⟩ := la
 obtain ⟨q, hq⟩ : ∃ q, q = yl.length := ⟨_, rfl⟩
 have hc0 : w2.cell? ⟨b0, off0, none⟩ = some (.slice ya q yc) := by rw [hq]; exact hcz
 clear hcz
 have Hq := hide hq
 clear hq
 go_wp2_with fail
 refine (ofItems_no_number b0 off0 1 c _ _ (by decide) hc0 ⟨_, _, _, rfl⟩).mono ?_
 rintro e wx ⟨rfl, rfl⟩
 go_wp2_with fail
 refine (ofNumbers_number ya q yc yl _ (He.out.keep hB2) ⟨(Hok.out _ (List.mem_singleton.2 rfl)).1.keep hB2, (Hok.out _ (List.mem_singleton.2 rfl)).2⟩ Hq.out).mono ?_
 rintro e w3 ⟨v, rfl, ho, hb3⟩
 have Ho := hide (ho.mono hB2.size)
 have hB3 := chain0 hB2 hb3
 clear ho hb3
 have HE2 : Hid (callO [110, 117, 109, 98, 101, 114] fNumber [⟨ya, yl, yc⟩] = fNumber yl) := HE.out
 generalize fNumber yl = sv at *
 obtain ⟨s1, s2⟩ := sv
 go_wp2
 go_ret2
 exact ⟨v, by rw [HE2.out]; rfl, by rw [HE2.out]; exact Ho.out, hB3⟩
theorem ofItems_no_abs (b off n c : Nat) (v : Value) (w : World) (hn : 0 < n) (h0 : w.cell? ⟨b, off, none⟩ = some v) (hv : ∃ a k d, v = .slice a k d) : Calls Tryz.prog 23 #[.string ⟨#[97, 98, 115]⟩, .slice (some ⟨b, off, none⟩) n c] w fun e w' => e = .returned (.tuple #[.slice none 0 0, .int .i64 0, .bool false]) ∧ w = w' := by
 have hix := ix_rowA b off n c hn
 have hn1 : ¬ (n : Int) = 0 := by omega
 have hn2 : ((n : Int) == 0) = false := by simpa using hn1
 have hn3 : ¬ n = 0 := by omega
 obtain ⟨a, k, d, rfl⟩ := hv
 clear hn
 go_enter Tryz.func23, Tryz.ntmps23
 go_wp2
 go_ret3
 exact ⟨rfl, rfl⟩
theorem callO_abs (p : Option Addr) (n c : Nat) (ls : List Lst) (m : Int) (w : World) (he : Env w) (hm : w.cell? ⟨3, 0, none⟩ = some (.int .i64 m)) (hc : Counts w) (hr : Rd w p (ls.map Lst.v)) (hok : OkAs w ls)
  (hR : ∀ x ∈ ls, ∀ y ∈ x.l, R64 y.num) (hn : n = ls.length) (hnm : n ≤ 1000000) :
  Calls Tryz.prog 7 #[.string ⟨#[97, 98, 115]⟩, .slice p n c] w (Res w (callO [97, 98, 115] fAbs ls).1 (callO [97, 98, 115] fAbs ls).2) := by
 have He := hide he
 have Hr := hide hr
 have Hok := hide hok
 have Hn := hide hn
 have HR := hide hR
 have Hrt := hide (right_any p n c ls w he.t8 hn (by omega) hr hok)
 have Hkn : Hid (∀ W, Below w.heap.size w W → Calls Tryz.prog 22 #[.string ⟨#[97, 98, 115]⟩, .int .i64 n] W fun e w' => e = .returned (.bool (knV [97, 98, 115] n)) ∧ Below W.heap.size W w') := fun W hW => known_any ⟨#[97, 98, 115]⟩ n m W (cell_keep hW hm) (hc.keep hW) (by decide)
 have hnl : n < 9223372036854775807 := by omega
 have Hall : Hid (callO [97, 98, 115] fAbs ls = if rightL ls = true then (if knV [97, 98, 115] n = true then one1 fAbs ls else ([], 241)) else ([], 2)) := by show _ = _; unfold callO; rw [hn]
 clear he hm hc hr hok hR hn hnm
 rcases Bool.eq_false_or_eq_true (rightL ls) with hq | hq
 rotate_left
 ·rw [hq] at Hrt
  have HA : Hid (callO [97, 98, 115] fAbs ls = ([], 2)) := by show _ = _; rw [Hall.out, hq]; rfl
  clear hq Hall
  go_enter Tryz.func7, Tryz.ntmps7
  go_wp2_with fail
  refine Hrt.out.mono ?_
  rintro e w1 ⟨rfl, hb1⟩
  go_wp2
  go_ret2
  exact ⟨.slice none 0 0, by rw [HA.out]; rfl, by rw [HA.out]; exact OwI.nil _ _, hb1⟩
 rw [hq] at Hrt
 rcases Bool.eq_false_or_eq_true (knV [97, 98, 115] n) with hk | hk
 rotate_left
 ·rw [hk] at Hkn
  have HA : Hid (callO [97, 98, 115] fAbs ls = ([], 241)) := by show _ = _; rw [Hall.out, hq, hk]; rfl
  clear hq hk Hall
  go_enter Tryz.func7, Tryz.ntmps7
  go_wp2_with fail
  refine Hrt.out.mono ?_
  rintro e w1 ⟨rfl, hb1⟩
  go_wp2_with fail
  refine (Hkn.out w1 hb1).mono ?_
  rintro e w2 ⟨rfl, hb2⟩
  have hB2 := chain0 hb1 hb2
  go_wp2
  go_ret2
  exact ⟨.slice none 0 0, by rw [HA.out]; rfl, by rw [HA.out]; exact OwI.nil _ _, hB2⟩
 have HE : Hid (callO [97, 98, 115] fAbs ls = one1 fAbs ls) := by show _ = _; rw [Hall.out, hq, hk, if_pos rfl, if_pos rfl]
 rw [hk] at Hkn
 have hn1 : ls.length = 1 := by
  rw [← Hn.out]
  unfold knV at hk
  simp [wK0, wK1] at hk
  omega
 clear hq hk Hall
 obtain ⟨la, rfl⟩ := len_1 hn1
 have hn2 : n = 1 := Hn.out
 subst hn2
 obtain ⟨b0, off0, rfl, hcz⟩ := Hr.out.cellAt 0 la.v rfl
 clear hcz hn1
 have hix0 := ix_rowA b0 off0 1 c (by decide)
 go_enter Tryz.func7, Tryz.ntmps7
 go_wp2_with fail
 refine Hrt.out.mono ?_
 rintro e w1 ⟨rfl, hb1⟩
 go_wp2_with fail
 refine (Hkn.out w1 hb1).mono ?_
 rintro e w2 ⟨rfl, hb2⟩
 have hB2 := chain0 hb1 hb2
 clear hb1 hb2 Hkn Hrt
 obtain ⟨b1, off1, e1, hcz⟩ := (Hr.out.keep hB2).cellAt 0 la.v rfl
 injection e1 with e1
 injection e1 with e1 e2
 subst e1 e2
 rw [Nat.add_zero] at hcz
 obtain ⟨ya, yl, yc⟩ := la
 obtain ⟨q, hq⟩ : ∃ q, q = yl.length := ⟨_, rfl⟩
 have hc0 : w2.cell? ⟨b0, off0, none⟩ = some (.slice ya q yc) := by rw [hq]; exact hcz
 clear hcz
 have Hq := hide hq
 clear hq
 go_wp2_with fail
 refine (ofItems_no_abs b0 off0 1 c _ _ (by decide) hc0 ⟨_, _, _, rfl⟩).mono ?_
 rintro e wx ⟨rfl, rfl⟩
 go_wp2_with fail
 refine (ofNumbers_abs ya q yc yl _ (He.out.keep hB2) ⟨(Hok.out _ (List.mem_singleton.2 rfl)).1.keep hB2, (Hok.out _ (List.mem_singleton.2 rfl)).2⟩ (HR.out _ (List.mem_singleton.2 rfl)) Hq.out).mono ?_
 rintro e w3 ⟨v, rfl, ho, hb3⟩
 have Ho := hide (ho.mono hB2.size)
 have hB3 := chain0 hB2 hb3
 clear ho hb3
 have HE2 : Hid (callO [97, 98, 115] fAbs [⟨ya, yl, yc⟩] = fAbs yl) := HE.out
 generalize fAbs yl = sv at *
 obtain ⟨s1, s2⟩ := sv
 go_wp2
 go_ret2
 exact ⟨v, by rw [HE2.out]; rfl, by rw [HE2.out]; exact Ho.out, hB3⟩
end Go.Proofs.YtaieiogmolaebaaGreatDoor
