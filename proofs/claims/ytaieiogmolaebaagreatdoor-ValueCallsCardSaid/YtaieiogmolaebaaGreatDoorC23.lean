/- value.ofItems, value.Call at count, empty, exists, not, boolean. value.order, value.holds, value.Compare at any items. value.Compare at any rows of items. -/
import Derived.Test.YtaieiogmolaebaaGreatDoorC22
import Derived.Test.YtaieiogmolaebaaGreatDoorC16
import Derived.Test.YtaieiogmolaebaaGreatDoorC12
import Derived.Test.YtaieiogmolaebaaGreatDoorRgi
import Derived.Test.YtaieiogmolaebaaGreatDoorC13
namespace Go.Proofs.YtaieiogmolaebaaGreatDoor
set_option maxRecDepth 100000
set_option maxHeartbeats 4000000
open Go.RowKit
def fCount (l : List It) : List It × Int := ([⟨2, (l.length : Int), ⟨#[]⟩, 0⟩], 0)
def fEmpty (l : List It) : List It × Int := ([⟨4, bN (decide (l.length = 0)), ⟨#[]⟩, 0⟩], 0)
def fExists (l : List It) : List It × Int := ([⟨4, bN (!decide (l.length = 0)), ⟨#[]⟩, 0⟩], 0)
def fNot (l : List It) : List It × Int := if (truthV l).2 = 0 then ([⟨4, bN (!(truthV l).1), ⟨#[]⟩, 0⟩], 0) else ([], (truthV l).2)
def fBoolean (l : List It) : List It × Int := if (truthV l).2 = 0 then ([⟨4, bN (truthV l).1, ⟨#[]⟩, 0⟩], 0) else ([], (truthV l).2)
def one1 (f : List It → List It × Int) : List Lst → List It × Int
 | [a] => f a.l
 | _ => ([], 0)
def callO (nm : List UInt8) (f : List It → List It × Int) (ls : List Lst) : List It × Int := if rightL ls = true then (if knV nm ls.length = true then one1 f ls else ([], 241)) else ([], 2)
theorem len_1 {α : Type} {l : List α} (h : l.length = 1) : ∃ a, l = [a] := List.length_eq_one_iff.1 h
theorem ofItems_count (b off c : Nat) (la : Lst) (w : World) (_he : Env w) (hr : Rd w (some ⟨b, off, none⟩) ([la].map Lst.v)) (hok : OkA w la) :
  Calls Tryz.prog 23 #[.string ⟨#[99, 111, 117, 110, 116]⟩, .slice (some ⟨b, off, none⟩) 1 c] w fun e w' => ∃ v, e = .returned (.tuple #[v, .int .i64 (fCount la.l).2, .bool true]) ∧ OwI w' w.heap.size v (fCount la.l).1 ∧ Below w.heap.size w w' := by
 have hix := ix_rowA b off 1 c (by decide)
 obtain ⟨b1, off1, e1, h0⟩ := hr.cellAt 0 _ rfl
 injection e1 with e1
 injection e1 with e1 e2
 subst e1 e2
 rw [Nat.add_zero] at h0
 obtain ⟨aa, al, ac⟩ := la
 obtain ⟨q, hq⟩ : ∃ q, q = al.length := ⟨_, rfl⟩
 have h1 : w.cell? ⟨b, off, none⟩ = some (.slice aa q ac) := by rw [hq]; exact h0
 dsimp only
 have HF : Hid (fCount al = ([⟨2, (q : Int), ⟨#[]⟩, 0⟩], 0)) := by show _ = _; unfold fCount; rw [hq]
 rw [HF.out]
 clear hq HF
 clear h0 hr hok
 go_enter Tryz.func23, Tryz.ntmps23
 go_wp2_with fail
 refine (vwhole_own q _).mono ?_
 rintro e w1 ⟨v, rfl, ho, hb⟩
 have Ho := hide ho
 clear ho h1
 go_wp2
 go_ret3
 exact ⟨v, rfl, Ho.out, hb⟩
theorem ofItems_empty (b off c : Nat) (la : Lst) (w : World) (_he : Env w) (hr : Rd w (some ⟨b, off, none⟩) ([la].map Lst.v)) (hok : OkA w la) :
  Calls Tryz.prog 23 #[.string ⟨#[101, 109, 112, 116, 121]⟩, .slice (some ⟨b, off, none⟩) 1 c] w fun e w' => ∃ v, e = .returned (.tuple #[v, .int .i64 (fEmpty la.l).2, .bool true]) ∧ OwI w' w.heap.size v (fEmpty la.l).1 ∧ Below w.heap.size w w' := by
 have hix := ix_rowA b off 1 c (by decide)
 obtain ⟨b1, off1, e1, h0⟩ := hr.cellAt 0 _ rfl
 injection e1 with e1
 injection e1 with e1 e2
 subst e1 e2
 rw [Nat.add_zero] at h0
 obtain ⟨aa, al, ac⟩ := la
 obtain ⟨q, hq⟩ : ∃ q, q = al.length := ⟨_, rfl⟩
 have h1 : w.cell? ⟨b, off, none⟩ = some (.slice aa q ac) := by rw [hq]; exact h0
 dsimp only
 clear h0 hr hok
 by_cases hz : q = 0
 ·subst hz
  have HF : Hid (fEmpty al = ([⟨4, bN true, ⟨#[]⟩, 0⟩], 0)) := by show _ = _; unfold fEmpty; (rw [← hq]) <;> rfl
  rw [HF.out]
  clear hq HF
  go_enter Tryz.func23, Tryz.ntmps23
  go_wp2_with fail
  refine (vtruth_own true _).mono ?_
  rintro e w1 ⟨v, rfl, ho, hb⟩
  have Ho := hide ho
  clear ho h1
  go_wp2
  go_ret3
  exact ⟨v, rfl, Ho.out, hb⟩
 ·have hz1 : ((q : Int) == 0) = false := by simpa using (show (q : Int) ≠ 0 by omega)
  have hz2 : (q == 0) = false := by simpa using hz
  have HF : Hid (fEmpty al = ([⟨4, bN false, ⟨#[]⟩, 0⟩], 0)) := by show _ = _; unfold fEmpty; (rw [← hq, decide_eq_false hz]) <;> rfl
  rw [HF.out]
  clear hq HF
  go_enter Tryz.func23, Tryz.ntmps23
  go_wp2_with fail
  refine (vtruth_own false _).mono ?_
  rintro e w1 ⟨v, rfl, ho, hb⟩
  have Ho := hide ho
  clear ho h1
  go_wp2
  go_ret3
  exact ⟨v, rfl, Ho.out, hb⟩
theorem ofItems_exists (b off c : Nat) (la : Lst) (w : World) (_he : Env w) (hr : Rd w (some ⟨b, off, none⟩) ([la].map Lst.v)) (hok : OkA w la) :
  Calls Tryz.prog 23 #[.string ⟨#[101, 120, 105, 115, 116, 115]⟩, .slice (some ⟨b, off, none⟩) 1 c] w fun e w' => ∃ v, e = .returned (.tuple #[v, .int .i64 (fExists la.l).2, .bool true]) ∧ OwI w' w.heap.size v (fExists la.l).1 ∧ Below w.heap.size w w' := by
 have hix := ix_rowA b off 1 c (by decide)
 obtain ⟨b1, off1, e1, h0⟩ := hr.cellAt 0 _ rfl
 injection e1 with e1
 injection e1 with e1 e2
 subst e1 e2
 rw [Nat.add_zero] at h0
 obtain ⟨aa, al, ac⟩ := la
 obtain ⟨q, hq⟩ : ∃ q, q = al.length := ⟨_, rfl⟩
 have h1 : w.cell? ⟨b, off, none⟩ = some (.slice aa q ac) := by rw [hq]; exact h0
 dsimp only
 clear h0 hr hok
 by_cases hz : q = 0
 ·subst hz
  have HF : Hid (fExists al = ([⟨4, bN false, ⟨#[]⟩, 0⟩], 0)) := by show _ = _; unfold fExists; (rw [← hq]) <;> rfl
  rw [HF.out]
  clear hq HF
  go_enter Tryz.func23, Tryz.ntmps23
  go_wp2_with fail
  refine (vtruth_own false _).mono ?_
  rintro e w1 ⟨v, rfl, ho, hb⟩
  have Ho := hide ho
  clear ho h1
  go_wp2
  go_ret3
  exact ⟨v, rfl, Ho.out, hb⟩
 ·have hz1 : ((q : Int) == 0) = false := by simpa using (show (q : Int) ≠ 0 by omega)
  have hz2 : (q == 0) = false := by simpa using hz
  have HF : Hid (fExists al = ([⟨4, bN true, ⟨#[]⟩, 0⟩], 0)) := by show _ = _; unfold fExists; (rw [← hq, decide_eq_false hz]) <;> rfl
  rw [HF.out]
  clear hq HF
  go_enter Tryz.func23, Tryz.ntmps23
  go_wp2_with fail
  refine (vtruth_own true _).mono ?_
  rintro e w1 ⟨v, rfl, ho, hb⟩
  have Ho := hide ho
  clear ho h1
  go_wp2
  go_ret3
  exact ⟨v, rfl, Ho.out, hb⟩
theorem ofItems_not (b off c : Nat) (la : Lst) (w : World) (he : Env w) (hr : Rd w (some ⟨b, off, none⟩) ([la].map Lst.v)) (hok : OkA w la) :
  Calls Tryz.prog 23 #[.string ⟨#[110, 111, 116]⟩, .slice (some ⟨b, off, none⟩) 1 c] w fun e w' => ∃ v, e = .returned (.tuple #[v, .int .i64 (fNot la.l).2, .bool true]) ∧ OwI w' w.heap.size v (fNot la.l).1 ∧ Below w.heap.size w w' := by
 have hix := ix_rowA b off 1 c (by decide)
 obtain ⟨b1, off1, e1, h0⟩ := hr.cellAt 0 _ rfl
 injection e1 with e1
 injection e1 with e1 e2
 subst e1 e2
 rw [Nat.add_zero] at h0
 obtain ⟨aa, al, ac⟩ := la
 obtain ⟨q, hq⟩ : ∃ q, q = al.length := ⟨_, rfl⟩
 have h1 : w.cell? ⟨b, off, none⟩ = some (.slice aa q ac) := by rw [hq]; exact h0
 dsimp only
 have Ht := hide (truth_any aa q ac al w he hok hq)
 have HF : Hid (fNot al = if (truthV al).2 = 0 then ([⟨4, bN (!(truthV al).1), ⟨#[]⟩, 0⟩], 0) else ([], (truthV al).2)) := by show _ = _; rfl
 rw [HF.out]
 generalize truthV al = tv at *
 obtain ⟨tb, te⟩ := tv
 dsimp only at Ht ⊢
 clear hq HF
 clear h0 hr he hok
 by_cases hz : te = 0
 ·subst hz
  rw [if_pos rfl]
  cases tb with
  | true =>
   go_enter Tryz.func23, Tryz.ntmps23
   go_wp2_with fail
   refine Ht.out.mono ?_
   rintro e w1 ⟨rfl, hb1⟩
   clear h1
   go_wp2_with fail
   refine (vtruth_own false _).mono ?_
   rintro e w2 ⟨v, rfl, ho, hb2⟩
   have Ho := hide (ho.mono hb1.size)
   have hB2 := chain0 hb1 hb2
   clear ho hb2
   go_wp2
   go_ret3
   exact ⟨v, rfl, Ho.out, hB2⟩
  | false =>
   go_enter Tryz.func23, Tryz.ntmps23
   go_wp2_with fail
   refine Ht.out.mono ?_
   rintro e w1 ⟨rfl, hb1⟩
   clear h1
   go_wp2_with fail
   refine (vtruth_own true _).mono ?_
   rintro e w2 ⟨v, rfl, ho, hb2⟩
   have Ho := hide (ho.mono hb1.size)
   have hB2 := chain0 hb1 hb2
   clear ho hb2
   go_wp2
   go_ret3
   exact ⟨v, rfl, Ho.out, hB2⟩
 ·have hz1 : (te != 0) = true := by simpa using hz
  rw [if_neg hz]
  clear hz
  go_enter Tryz.func23, Tryz.ntmps23
  go_wp2_with fail
  refine Ht.out.mono ?_
  rintro e w1 ⟨rfl, hb1⟩
  clear h1
  go_wp2
  go_ret3
  exact ⟨.slice none 0 0, rfl, OwI.nil _ _, hb1⟩
theorem ofItems_boolean (b off c : Nat) (la : Lst) (w : World) (he : Env w) (hr : Rd w (some ⟨b, off, none⟩) ([la].map Lst.v)) (hok : OkA w la) :
  Calls Tryz.prog 23 #[.string ⟨#[98, 111, 111, 108, 101, 97, 110]⟩, .slice (some ⟨b, off, none⟩) 1 c] w fun e w' => ∃ v, e = .returned (.tuple #[v, .int .i64 (fBoolean la.l).2, .bool true]) ∧ OwI w' w.heap.size v (fBoolean la.l).1 ∧ Below w.heap.size w w' := by
 have hix := ix_rowA b off 1 c (by decide)
 obtain ⟨b1, off1, e1, h0⟩ := hr.cellAt 0 _ rfl
 injection e1 with e1
 injection e1 with e1 e2
 subst e1 e2
 rw [Nat.add_zero] at h0
 obtain ⟨aa, al, ac⟩ := la
 obtain ⟨q, hq⟩ : ∃ q, q = al.length := ⟨_, rfl⟩
 have h1 : w.cell? ⟨b, off, none⟩ = some (.slice aa q ac) := by rw [hq]; exact h0
 dsimp only
 have Ht := hide (truth_any aa q ac al w he hok hq)
 have HF : Hid (fBoolean al = if (truthV al).2 = 0 then ([⟨4, bN (truthV al).1, ⟨#[]⟩, 0⟩], 0) else ([], (truthV al).2)) := by show _ = _; rfl
 rw [HF.out]
 generalize truthV al = tv at *
 obtain ⟨tb, te⟩ := tv
 dsimp only at Ht ⊢
 clear hq HF
 clear h0 hr he hok
 by_cases hz : te = 0
 ·subst hz
  rw [if_pos rfl]
  cases tb with
  | true =>
   go_enter Tryz.func23, Tryz.ntmps23
   go_wp2_with fail
   refine Ht.out.mono ?_
   rintro e w1 ⟨rfl, hb1⟩
   clear h1
   go_wp2_with fail
   refine (vtruth_own true _).mono ?_
   rintro e w2 ⟨v, rfl, ho, hb2⟩
   have Ho := hide (ho.mono hb1.size)
   have hB2 := chain0 hb1 hb2
   clear ho hb2
   go_wp2
   go_ret3
   exact ⟨v, rfl, Ho.out, hB2⟩
  | false =>
   go_enter Tryz.func23, Tryz.ntmps23
   go_wp2_with fail
   refine Ht.out.mono ?_
   rintro e w1 ⟨rfl, hb1⟩
   clear h1
   go_wp2_with fail
   refine (vtruth_own false _).mono ?_
   rintro e w2 ⟨v, rfl, ho, hb2⟩
   have Ho := hide (ho.mono hb1.size)
   have hB2 := chain0 hb1 hb2
   clear ho hb2
   go_wp2
   go_ret3
   exact ⟨v, rfl, Ho.out, hB2⟩
 ·have hz1 : (te != 0) = true := by simpa using hz
  rw [if_neg hz]
  clear hz
  go_enter Tryz.func23, Tryz.ntmps23
  go_wp2_with fail
  refine Ht.out.mono ?_
  rintro e w1 ⟨rfl, hb1⟩
  clear h1
  go_wp2
  go_ret3
  exact ⟨.slice none 0 0, rfl, OwI.nil _ _, hb1⟩
theorem callO_count (p : Option Addr) (n c : Nat) (ls : List Lst) (m : Int) (w : World) (he : Env w) (hm : w.cell? ⟨3, 0, none⟩ = some (.int .i64 m)) (hc : Counts w) (hr : Rd w p (ls.map Lst.v)) (hok : OkAs w ls)
  (hn : n = ls.length) (hnm : n ≤ 1000000) :
  Calls Tryz.prog 7 #[.string ⟨#[99, 111, 117, 110, 116]⟩, .slice p n c] w (Res w (callO [99, 111, 117, 110, 116] fCount ls).1 (callO [99, 111, 117, 110, 116] fCount ls).2) := by
 have He := hide he
 have Hr := hide hr
 have Hok := hide hok
 have Hn := hide hn
 have Hrt := hide (right_any p n c ls w he.t8 hn (by omega) hr hok)
 have Hkn : Hid (∀ W, Below w.heap.size w W → Calls Tryz.prog 22 #[.string ⟨#[99, 111, 117, 110, 116]⟩, .int .i64 n] W fun e w' => e = .returned (.bool (knV [99, 111, 117, 110, 116] n)) ∧ Below W.heap.size W w') := fun W hW => known_any ⟨#[99, 111, 117, 110, 116]⟩ n m W (cell_keep hW hm) (hc.keep hW) (by decide)
 have hnl : n < 9223372036854775807 := by omega
 have Hall : Hid (callO [99, 111, 117, 110, 116] fCount ls = if rightL ls = true then (if knV [99, 111, 117, 110, 116] n = true then one1 fCount ls else ([], 241)) else ([], 2)) := by show _ = _; unfold callO; rw [hn]
 clear he hm hc hr hok hn hnm
 rcases Bool.eq_false_or_eq_true (rightL ls) with hq | hq
 rotate_left
 ·rw [hq] at Hrt
  have HA : Hid (callO [99, 111, 117, 110, 116] fCount ls = ([], 2)) := by show _ = _; rw [Hall.out, hq]; rfl
  clear hq Hall
  go_enter Tryz.func7, Tryz.ntmps7
  go_wp2_with fail
  refine Hrt.out.mono ?_
  rintro e w1 ⟨rfl, hb1⟩
  go_wp2
  go_ret2
  exact ⟨.slice none 0 0, by rw [HA.out]; rfl, by rw [HA.out]; exact OwI.nil _ _, hb1⟩
 rw [hq] at Hrt
 rcases Bool.eq_false_or_eq_true (knV [99, 111, 117, 110, 116] n) with hk | hk
 rotate_left
 ·rw [hk] at Hkn
  have HA : Hid (callO [99, 111, 117, 110, 116] fCount ls = ([], 241)) := by show _ = _; rw [Hall.out, hq, hk]; rfl
  clear hq hk Hall
  go_enter Tryz.func7, Tryz.ntmps7
  go_wp2_with fail
  refine Hrt.out.mono ?_
  rintro e w1 ⟨rfl, hb1⟩
  go_wp2_with fail
  refine (Hkn.out w1 hb1).mono ?_
  rintro e w2 ⟨rfl, hb2⟩
  have hB2 := chain0 hb1 hb2
  go_wp2
  go_ret2
  exact ⟨.slice none 0 0, by rw [HA.out]; rfl, by rw [HA.out]; exact OwI.nil _ _, hB2⟩
 have HE : Hid (callO [99, 111, 117, 110, 116] fCount ls = one1 fCount ls) := by show _ = _; rw [Hall.out, hq, hk, if_pos rfl, if_pos rfl]
 rw [hk] at Hkn
 have hn1 : ls.length = 1 := by
  rw [← Hn.out]
  unfold knV at hk
  simp [wK0, wK1] at hk
  omega
 clear hq hk Hall
 obtain ⟨la, rfl⟩ := len_1 hn1
 have hn2 : n = 1 := Hn.out
 subst hn2
 obtain ⟨b0, off0, rfl, hcz⟩ := Hr.out.cellAt 0 la.v rfl
 clear hcz hn1
 go_enter Tryz.func7, Tryz.ntmps7
 go_wp2_with fail
 refine Hrt.out.mono ?_
 rintro e w1 ⟨rfl, hb1⟩
 go_wp2_with fail
 refine (Hkn.out w1 hb1).mono ?_
 rintro e w2 ⟨rfl, hb2⟩
 have hB2 := chain0 hb1 hb2
 clear hb1 hb2 Hkn Hrt
 go_wp2_with fail
 refine (ofItems_count b0 off0 c la _ (He.out.keep hB2) (Hr.out.keep hB2) ⟨(Hok.out la (by simp)).1.keep hB2, (Hok.out la (by simp)).2⟩).mono ?_
 rintro e w3 ⟨v, rfl, ho, hb3⟩
 have Ho := hide (ho.mono hB2.size)
 have hB3 := chain0 hB2 hb3
 clear ho hb3
 have HE2 : Hid (callO [99, 111, 117, 110, 116] fCount [la] = fCount la.l) := HE.out
 generalize fCount la.l = sv at *
 obtain ⟨s1, s2⟩ := sv
 go_wp2
 go_ret2
 exact ⟨v, by rw [HE2.out]; rfl, by rw [HE2.out]; exact Ho.out, hB3⟩
theorem callO_empty (p : Option Addr) (n c : Nat) (ls : List Lst) (m : Int) (w : World) (he : Env w) (hm : w.cell? ⟨3, 0, none⟩ = some (.int .i64 m)) (hc : Counts w) (hr : Rd w p (ls.map Lst.v)) (hok : OkAs w ls)
  (hn : n = ls.length) (hnm : n ≤ 1000000) :
  Calls Tryz.prog 7 #[.string ⟨#[101, 109, 112, 116, 121]⟩, .slice p n c] w (Res w (callO [101, 109, 112, 116, 121] fEmpty ls).1 (callO [101, 109, 112, 116, 121] fEmpty ls).2) := by
 have He := hide he
 have Hr := hide hr
 have Hok := hide hok
 have Hn := hide hn
 have Hrt := hide (right_any p n c ls w he.t8 hn (by omega) hr hok)
 have Hkn : Hid (∀ W, Below w.heap.size w W → Calls Tryz.prog 22 #[.string ⟨#[101, 109, 112, 116, 121]⟩, .int .i64 n] W fun e w' => e = .returned (.bool (knV [101, 109, 112, 116, 121] n)) ∧ Below W.heap.size W w') := fun W hW => known_any ⟨#[101, 109, 112, 116, 121]⟩ n m W (cell_keep hW hm) (hc.keep hW) (by decide)
 have hnl : n < 9223372036854775807 := by omega
 have Hall : Hid (callO [101, 109, 112, 116, 121] fEmpty ls = if rightL ls = true then (if knV [101, 109, 112, 116, 121] n = true then one1 fEmpty ls else ([], 241)) else ([], 2)) := by show _ = _; unfold callO; rw [hn]
 clear he hm hc hr hok hn hnm
 rcases Bool.eq_false_or_eq_true (rightL ls) with hq | hq
 rotate_left
 ·rw [hq] at Hrt
  have HA : Hid (callO [101, 109, 112, 116, 121] fEmpty ls = ([], 2)) := by show _ = _; rw [Hall.out, hq]; rfl
  clear hq Hall
  go_enter Tryz.func7, Tryz.ntmps7
  go_wp2_with fail
  refine Hrt.out.mono ?_
  rintro e w1 ⟨rfl, hb1⟩
  go_wp2
  go_ret2
  exact ⟨.slice none 0 0, by rw [HA.out]; rfl, by rw [HA.out]; exact OwI.nil _ _, hb1⟩
 rw [hq] at Hrt
 rcases Bool.eq_false_or_eq_true (knV [101, 109, 112, 116, 121] n) with hk | hk
 rotate_left
 ·rw [hk] at Hkn
  have HA : Hid (callO [101, 109, 112, 116, 121] fEmpty ls = ([], 241)) := by show _ = _; rw [Hall.out, hq, hk]; rfl
  clear hq hk Hall
  go_enter Tryz.func7, Tryz.ntmps7
  go_wp2_with fail
  refine Hrt.out.mono ?_
  rintro e w1 ⟨rfl, hb1⟩
  go_wp2_with fail
  refine (Hkn.out w1 hb1).mono ?_
  rintro e w2 ⟨rfl, hb2⟩
  have hB2 := chain0 hb1 hb2
  go_wp2
  go_ret2
  exact ⟨.slice none 0 0, by rw [HA.out]; rfl, by rw [HA.out]; exact OwI.nil _ _, hB2⟩
 have HE : Hid (callO [101, 109, 112, 116, 121] fEmpty ls = one1 fEmpty ls) := by show _ = _; rw [Hall.out, hq, hk, if_pos rfl, if_pos rfl]
 rw [hk] at Hkn
 have hn1 : ls.length = 1 := by
  rw [← Hn.out]
  unfold knV at hk
  simp [wK0, wK1] at hk
  omega
 clear hq hk Hall
 obtain ⟨la, rfl⟩ := len_1 hn1
 have hn2 : n = 1 := Hn.out
 subst hn2
 obtain ⟨b0, off0, rfl, hcz⟩ := Hr.out.cellAt 0 la.v rfl
 clear hcz hn1
 go_enter Tryz.func7, Tryz.ntmps7
 go_wp2_with fail
 refine Hrt.out.mono ?_
 rintro e w1 ⟨rfl, hb1⟩
 go_wp2_with fail
 refine (Hkn.out w1 hb1).mono ?_
 rintro e w2 ⟨rfl, hb2⟩
 have hB2 := chain0 hb1 hb2
 clear hb1 hb2 Hkn Hrt
 go_wp2_with fail
 refine (ofItems_empty b0 off0 c la _ (He.out.keep hB2) (Hr.out.keep hB2) ⟨(Hok.out la (by simp)).1.keep hB2, (Hok.out la (by simp)).2⟩).mono ?_
 rintro e w3 ⟨v, rfl, ho, hb3⟩
 have Ho := hide (ho.mono hB2.size)
 have hB3 := chain0 hB2 hb3
 clear ho hb3
 have HE2 : Hid (callO [101, 109, 112, 116, 121] fEmpty [la] = fEmpty la.l) := HE.out
 generalize fEmpty la.l = sv at *
 obtain ⟨s1, s2⟩ := sv
 go_wp2
 go_ret2
 exact ⟨v, by rw [HE2.out]; rfl, by rw [HE2.out]; exact Ho.out, hB3⟩
theorem callO_exists (p : Option Addr) (n c : Nat) (ls : List Lst) (m : Int) (w : World) (he : Env w) (hm : w.cell? ⟨3, 0, none⟩ = some (.int .i64 m)) (hc : Counts w) (hr : Rd w p (ls.map Lst.v)) (hok : OkAs w ls)
  (hn : n = ls.length) (hnm : n ≤ 1000000) :
  Calls Tryz.prog 7 #[.string ⟨#[101, 120, 105, 115, 116, 115]⟩, .slice p n c] w (Res w (callO [101, 120, 105, 115, 116, 115] fExists ls).1 (callO [101, 120, 105, 115, 116, 115] fExists ls).2) := by
 have He := hide he
 have Hr := hide hr
 have Hok := hide hok
 have Hn := hide hn
 have Hrt := hide (right_any p n c ls w he.t8 hn (by omega) hr hok)
 have Hkn : Hid (∀ W, Below w.heap.size w W → Calls Tryz.prog 22 #[.string ⟨#[101, 120, 105, 115, 116, 115]⟩, .int .i64 n] W fun e w' => e = .returned (.bool (knV [101, 120, 105, 115, 116, 115] n)) ∧ Below W.heap.size W w') := fun W hW => known_any ⟨#[101, 120, 105, 115, 116, 115]⟩ n m W (cell_keep hW hm) (hc.keep hW) (by decide)
 have hnl : n < 9223372036854775807 := by omega
 have Hall : Hid (callO [101, 120, 105, 115, 116, 115] fExists ls = if rightL ls = true then (if knV [101, 120, 105, 115, 116, 115] n = true then one1 fExists ls else ([], 241)) else ([], 2)) := by show _ = _; unfold callO; rw [hn]
 clear he hm hc hr hok hn hnm
 rcases Bool.eq_false_or_eq_true (rightL ls) with hq | hq
 rotate_left
 ·rw [hq] at Hrt
  have HA : Hid (callO [101, 120, 105, 115, 116, 115] fExists ls = ([], 2)) := by show _ = _; rw [Hall.out, hq]; rfl
  clear hq Hall
  go_enter Tryz.func7, Tryz.ntmps7
  go_wp2_with fail
  refine Hrt.out.mono ?_
  rintro e w1 ⟨rfl, hb1⟩
  go_wp2
  go_ret2
  exact ⟨.slice none 0 0, by rw [HA.out]; rfl, by rw [HA.out]; exact OwI.nil _ _, hb1⟩
 rw [hq] at Hrt
 rcases Bool.eq_false_or_eq_true (knV [101, 120, 105, 115, 116, 115] n) with hk | hk
 rotate_left
 ·rw [hk] at Hkn
  have HA : Hid (callO [101, 120, 105, 115, 116, 115] fExists ls = ([], 241)) := by show _ = _; rw [Hall.out, hq, hk]; rfl
  clear hq hk Hall
  go_enter Tryz.func7, Tryz.ntmps7
  go_wp2_with fail
  refine Hrt.out.mono ?_
  rintro e w1 ⟨rfl, hb1⟩
  go_wp2_with fail
  refine (Hkn.out w1 hb1).mono ?_
  rintro e w2 ⟨rfl, hb2⟩
  have hB2 := chain0 hb1 hb2
  go_wp2
  go_ret2
  exact ⟨.slice none 0 0, by rw [HA.out]; rfl, by rw [HA.out]; exact OwI.nil _ _, hB2⟩
 have HE : Hid (callO [101, 120, 105, 115, 116, 115] fExists ls = one1 fExists ls) := by show _ = _; rw [Hall.out, hq, hk, if_pos rfl, if_pos rfl]
 rw [hk] at Hkn
 have hn1 : ls.length = 1 := by
  rw [← Hn.out]
  unfold knV at hk
  simp [wK0, wK1] at hk
  omega
 clear hq hk Hall
 obtain ⟨la, rfl⟩ := len_1 hn1
 have hn2 : n = 1 := Hn.out
 subst hn2
 obtain ⟨b0, off0, rfl, hcz⟩ := Hr.out.cellAt 0 la.v rfl
 clear hcz hn1
 go_enter Tryz.func7, Tryz.ntmps7
 go_wp2_with fail
 refine Hrt.out.mono ?_
 rintro e w1 ⟨rfl, hb1⟩
 go_wp2_with fail
 refine (Hkn.out w1 hb1).mono ?_
 rintro e w2 ⟨rfl, hb2⟩
 have hB2 := chain0 hb1 hb2
 clear hb1 hb2 Hkn Hrt
 go_wp2_with fail
 refine (ofItems_exists b0 off0 c la _ (He.out.keep hB2) (Hr.out.keep hB2) ⟨(Hok.out la (by simp)).1.keep hB2, (Hok.out la (by simp)).2⟩).mono ?_
 rintro e w3 ⟨v, rfl, ho, hb3⟩
 have Ho := hide (ho.mono hB2.size)
 have hB3 := chain0 hB2 hb3
 clear ho hb3
 have HE2 : Hid (callO [101, 120, 105, 115, 116, 115] fExists [la] = fExists la.l) := HE.out
 generalize fExists la.l = sv at *
 obtain ⟨s1, s2⟩ := sv
 go_wp2
 go_ret2
 exact ⟨v, by rw [HE2.out]; rfl, by rw [HE2.out]; exact Ho.out, hB3⟩
theorem callO_not (p : Option Addr) (n c : Nat) (ls : List Lst) (m : Int) (w : World) (he : Env w) (hm : w.cell? ⟨3, 0, none⟩ = some (.int .i64 m)) (hc : Counts w) (hr : Rd w p (ls.map Lst.v)) (hok : OkAs w ls)
  (hn : n = ls.length) (hnm : n ≤ 1000000) :
  Calls Tryz.prog 7 #[.string ⟨#[110, 111, 116]⟩, .slice p n c] w (Res w (callO [110, 111, 116] fNot ls).1 (callO [110, 111, 116] fNot ls).2) := by
 have He := hide he
 have Hr := hide hr
 have Hok := hide hok
 have Hn := hide hn
 have Hrt := hide (right_any p n c ls w he.t8 hn (by omega) hr hok)
 have Hkn : Hid (∀ W, Below w.heap.size w W → Calls Tryz.prog 22 #[.string ⟨#[110, 111, 116]⟩, .int .i64 n] W fun e w' => e = .returned (.bool (knV [110, 111, 116] n)) ∧ Below W.heap.size W w') := fun W hW => known_any ⟨#[110, 111, 116]⟩ n m W (cell_keep hW hm) (hc.keep hW) (by decide)
 have hnl : n < 9223372036854775807 := by omega
 have Hall : Hid (callO [110, 111, 116] fNot ls = if rightL ls = true then (if knV [110, 111, 116] n = true then one1 fNot ls else ([], 241)) else ([], 2)) := by show _ = _; unfold callO; rw [hn]
 clear he hm hc hr hok hn hnm
 rcases Bool.eq_false_or_eq_true (rightL ls) with hq | hq
 rotate_left
 ·rw [hq] at Hrt
  have HA : Hid (callO [110, 111, 116] fNot ls = ([], 2)) := by show _ = _; rw [Hall.out, hq]; rfl
  clear hq Hall
  go_enter Tryz.func7, Tryz.ntmps7
  go_wp2_with fail
  refine Hrt.out.mono ?_
  rintro e w1 ⟨rfl, hb1⟩
  go_wp2
  go_ret2
  exact ⟨.slice none 0 0, by rw [HA.out]; rfl, by rw [HA.out]; exact OwI.nil _ _, hb1⟩
 rw [hq] at Hrt
 rcases Bool.eq_false_or_eq_true (knV [110, 111, 116] n) with hk | hk
 rotate_left
 ·rw [hk] at Hkn
  have HA : Hid (callO [110, 111, 116] fNot ls = ([], 241)) := by show _ = _; rw [Hall.out, hq, hk]; rfl
  clear hq hk Hall
  go_enter Tryz.func7, Tryz.ntmps7
  go_wp2_with fail
  refine Hrt.out.mono ?_
  rintro e w1 ⟨rfl, hb1⟩
  go_wp2_with fail
  refine (Hkn.out w1 hb1).mono ?_
  rintro e w2 ⟨rfl, hb2⟩
  have hB2 := chain0 hb1 hb2
  go_wp2
  go_ret2
  exact ⟨.slice none 0 0, by rw [HA.out]; rfl, by rw [HA.out]; exact OwI.nil _ _, hB2⟩
 have HE : Hid (callO [110, 111, 116] fNot ls = one1 fNot ls) := by show _ = _; rw [Hall.out, hq, hk, if_pos rfl, if_pos rfl]
 rw [hk] at Hkn
 have hn1 : ls.length = 1 := by
  rw [← Hn.out]
  unfold knV at hk
  simp [wK0, wK1] at hk
  omega
 clear hq hk Hall
 obtain ⟨la, rfl⟩ := len_1 hn1
 have hn2 : n = 1 := Hn.out
 subst hn2
 obtain ⟨b0, off0, rfl, hcz⟩ := Hr.out.cellAt 0 la.v rfl
 clear hcz hn1
 go_enter Tryz.func7, Tryz.ntmps7
 go_wp2_with fail
 refine Hrt.out.mono ?_
 rintro e w1 ⟨rfl, hb1⟩
 go_wp2_with fail
 refine (Hkn.out w1 hb1).mono ?_
 rintro e w2 ⟨rfl, hb2⟩
 have hB2 := chain0 hb1 hb2
 clear hb1 hb2 Hkn Hrt
 go_wp2_with fail
 refine (ofItems_not b0 off0 c la _ (He.out.keep hB2) (Hr.out.keep hB2) ⟨(Hok.out la (by simp)).1.keep hB2, (Hok.out la (by simp)).2⟩).mono ?_
 rintro e w3 ⟨v, rfl, ho, hb3⟩
 have Ho := hide (ho.mono hB2.size)
 have hB3 := chain0 hB2 hb3
 clear ho hb3
 have HE2 : Hid (callO [110, 111, 116] fNot [la] = fNot la.l) := HE.out
 generalize fNot la.l = sv at *
 obtain ⟨s1, s2⟩ := sv
 go_wp2
 go_ret2
 exact ⟨v, by rw [HE2.out]; rfl, by rw [HE2.out]; exact Ho.out, hB3⟩
theorem callO_boolean (p : Option Addr) (n c : Nat) (ls : List Lst) (m : Int) (w : World) (he : Env w) (hm : w.cell? ⟨3, 0, none⟩ = some (.int .i64 m)) (hc : Counts w) (hr : Rd w p (ls.map Lst.v)) (hok : OkAs w ls)
  (hn : n = ls.length) (hnm : n ≤ 1000000) :
  Calls Tryz.prog 7 #[.string ⟨#[98, 111, 111, 108, 101, 97, 110]⟩, .slice p n c] w (Res w (callO [98, 111, 111, 108, 101, 97, 110] fBoolean ls).1 (callO [98, 111, 111, 108, 101, 97, 110] fBoolean ls).2) := by
 have He := hide he
 have Hr := hide hr
 have Hok := hide hok
 have Hn := hide hn
 have Hrt := hide (right_any p n c ls w he.t8 hn (by omega) hr hok)
 have Hkn : Hid (∀ W, Below w.heap.size w W → Calls Tryz.prog 22 #[.string ⟨#[98, 111, 111, 108, 101, 97, 110]⟩, .int .i64 n] W fun e w' => e = .returned (.bool (knV [98, 111, 111, 108, 101, 97, 110] n)) ∧ Below W.heap.size W w') := fun W hW => known_any ⟨#[98, 111, 111, 108, 101, 97, 110]⟩ n m W (cell_keep hW hm) (hc.keep hW) (by decide)
 have hnl : n < 9223372036854775807 := by omega
 have Hall : Hid (callO [98, 111, 111, 108, 101, 97, 110] fBoolean ls = if rightL ls = true then (if knV [98, 111, 111, 108, 101, 97, 110] n = true then one1 fBoolean ls else ([], 241)) else ([], 2)) := by show _ = _; unfold callO; rw [hn]
 clear he hm hc hr hok hn hnm
 rcases Bool.eq_false_or_eq_true (rightL ls) with hq | hq
 rotate_left
 ·rw [hq] at Hrt
  have HA : Hid (callO [98, 111, 111, 108, 101, 97, 110] fBoolean ls = ([], 2)) := by show _ = _; rw [Hall.out, hq]; rfl
  clear hq Hall
  go_enter Tryz.func7, Tryz.ntmps7
  go_wp2_with fail
  refine Hrt.out.mono ?_
  rintro e w1 ⟨rfl, hb1⟩
  go_wp2
  go_ret2
  exact ⟨.slice none 0 0, by rw [HA.out]; rfl, by rw [HA.out]; exact OwI.nil _ _, hb1⟩
 rw [hq] at Hrt
 rcases Bool.eq_false_or_eq_true (knV [98, 111, 111, 108, 101, 97, 110] n) with hk | hk
 rotate_left
 ·rw [hk] at Hkn
  have HA : Hid (callO [98, 111, 111, 108, 101, 97, 110] fBoolean ls = ([], 241)) := by show _ = _; rw [Hall.out, hq, hk]; rfl
  clear hq hk Hall
  go_enter Tryz.func7, Tryz.ntmps7
  go_wp2_with fail
  refine Hrt.out.mono ?_
  rintro e w1 ⟨rfl, hb1⟩
  go_wp2_with fail
  refine (Hkn.out w1 hb1).mono ?_
  rintro e w2 ⟨rfl, hb2⟩
  have hB2 := chain0 hb1 hb2
  go_wp2
  go_ret2
  exact ⟨.slice none 0 0, by rw [HA.out]; rfl, by rw [HA.out]; exact OwI.nil _ _, hB2⟩
 have HE : Hid (callO [98, 111, 111, 108, 101, 97, 110] fBoolean ls = one1 fBoolean ls) := by show _ = _; rw [Hall.out, hq, hk, if_pos rfl, if_pos rfl]
 rw [hk] at Hkn
 have hn1 : ls.length = 1 := by
  rw [← Hn.out]
  unfold knV at hk
  simp [wK0, wK1] at hk
  omega
 clear hq hk Hall
 obtain ⟨la, rfl⟩ := len_1 hn1
 have hn2 : n = 1 := Hn.out
 subst hn2
 obtain ⟨b0, off0, rfl, hcz⟩ := Hr.out.cellAt 0 la.v rfl
 clear hcz hn1
 go_enter Tryz.func7, Tryz.ntmps7
 go_wp2_with fail
 refine Hrt.out.mono ?_
 rintro e w1 ⟨rfl, hb1⟩
 go_wp2_with fail
 refine (Hkn.out w1 hb1).mono ?_
 rintro e w2 ⟨rfl, hb2⟩
 have hB2 := chain0 hb1 hb2
 clear hb1 hb2 Hkn Hrt
 go_wp2_with fail
 refine (ofItems_boolean b0 off0 c la _ (He.out.keep hB2) (Hr.out.keep hB2) ⟨(Hok.out la (by simp)).1.keep hB2, (Hok.out la (by simp)).2⟩).mono ?_
 rintro e w3 ⟨v, rfl, ho, hb3⟩
 have Ho := hide (ho.mono hB2.size)
 have hB3 := chain0 hB2 hb3
 clear ho hb3
 have HE2 : Hid (callO [98, 111, 111, 108, 101, 97, 110] fBoolean [la] = fBoolean la.l) := HE.out
 generalize fBoolean la.l = sv at *
 obtain ⟨s1, s2⟩ := sv
 go_wp2
 go_ret2
 exact ⟨v, by rw [HE2.out]; rfl, by rw [HE2.out]; exact Ho.out, hB3⟩
end Go.Proofs.YtaieiogmolaebaaGreatDoor
namespace Go.Proofs.YtaieiogmolaebaaGreatDoor
open Go.RowKit
end Go.Proofs.YtaieiogmolaebaaGreatDoor
namespace Go.Proofs.YtaieiogmolaebaaGreatDoor
open Go.RowKit
theorem drop_at {α : Type} (l : List α) (k : Nat) (x : α) (hx : l[k]? = some x) : l.drop k = x :: l.drop (k + 1) := by
 obtain ⟨h1, h2⟩ := List.getElem?_eq_some_iff.1 hx
 rw [List.drop_eq_getElem_cons h1, h2]
end Go.Proofs.YtaieiogmolaebaaGreatDoor
