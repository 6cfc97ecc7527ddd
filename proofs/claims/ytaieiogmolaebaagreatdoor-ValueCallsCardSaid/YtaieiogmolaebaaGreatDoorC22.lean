/- value.Call at substring. value.Call where a row is not right or there is no such function; at true, false. -/
import Derived.Test.YtaieiogmolaebaaGreatDoorKf
namespace Go.Proofs.YtaieiogmolaebaaGreatDoor
set_option maxRecDepth 100000
set_option maxHeartbeats 4000000
open Go.RowKit
theorem ofItems_sub2 (b off c : Nat) (la lb : Lst) (w : World) (he : Env w) (hr : Rd w (some ⟨b, off, none⟩) ([la, lb].map Lst.v)) (hoka : OkA w la) (hokb : OkA w lb) (hRa : ∀ y ∈ la.l, R64 y.num) (hRb : ∀ y ∈ lb.l, R64 y.num) (hsa : ∀ y ∈ la.l, y.text.size ≤ 100000) :
  Calls Tryz.prog 23 #[.string ⟨#[115, 117, 98, 115, 116, 114, 105, 110, 103]⟩, .slice (some ⟨b, off, none⟩) 2 c] w fun e w' => ∃ v, e = .returned (.tuple #[v, .int .i64 (subV [la, lb]).2, .bool true]) ∧ OwI w' w.heap.size v (subV [la, lb]).1 ∧ Below w.heap.size w w' := by
 have H := hide (sub2_any b off c la lb w he hr hoka hokb hRa hRb hsa)
 have hix := ix_rowA b off 2 c (by decide)
 obtain ⟨b1, off1, e1, h0⟩ := hr.cellAt 0 _ rfl
 injection e1 with e1
 injection e1 with e1 e2
 subst e1 e2
 rw [Nat.add_zero] at h0
 obtain ⟨aa, al, ac⟩ := la
 have h1 : w.cell? ⟨b, off, none⟩ = some (.slice aa al.length ac) := h0
 clear h0 he hr hoka hokb hRa hRb hsa
 generalize subV _ = sv at *
 obtain ⟨s1, s2⟩ := sv
 dsimp only at H ⊢
 go_enter Tryz.func23, Tryz.ntmps23
 go_wp2_with fail
 refine H.out.mono ?_
 rintro e w1 ⟨v, rfl, ho, hb⟩
 have Ho := hide ho
 clear ho h1
 go_wp2
 go_ret3
 exact ⟨v, rfl, Ho.out, hb⟩
theorem ofItems_sub3 (b off c : Nat) (la lb lc : Lst) (w : World) (he : Env w) (hr : Rd w (some ⟨b, off, none⟩) ([la, lb, lc].map Lst.v)) (hoka : OkA w la) (hokb : OkA w lb) (hokc : OkA w lc) (hRa : ∀ y ∈ la.l, R64 y.num) (hRb : ∀ y ∈ lb.l, R64 y.num) (hRc : ∀ y ∈ lc.l, R64 y.num) (hsa : ∀ y ∈ la.l, y.text.size ≤ 100000) :
  Calls Tryz.prog 23 #[.string ⟨#[115, 117, 98, 115, 116, 114, 105, 110, 103]⟩, .slice (some ⟨b, off, none⟩) 3 c] w fun e w' => ∃ v, e = .returned (.tuple #[v, .int .i64 (subV [la, lb, lc]).2, .bool true]) ∧ OwI w' w.heap.size v (subV [la, lb, lc]).1 ∧ Below w.heap.size w w' := by
 have H := hide (sub3_any b off c la lb lc w he hr hoka hokb hokc hRa hRb hRc hsa)
 have hix := ix_rowA b off 3 c (by decide)
 obtain ⟨b1, off1, e1, h0⟩ := hr.cellAt 0 _ rfl
 injection e1 with e1
 injection e1 with e1 e2
 subst e1 e2
 rw [Nat.add_zero] at h0
 obtain ⟨aa, al, ac⟩ := la
 have h1 : w.cell? ⟨b, off, none⟩ = some (.slice aa al.length ac) := h0
 clear h0 he hr hoka hokb hokc hRa hRb hRc hsa
 generalize subV _ = sv at *
 obtain ⟨s1, s2⟩ := sv
 dsimp only at H ⊢
 go_enter Tryz.func23, Tryz.ntmps23
 go_wp2_with fail
 refine H.out.mono ?_
 rintro e w1 ⟨v, rfl, ho, hb⟩
 have Ho := hide ho
 clear ho h1
 go_wp2
 go_ret3
 exact ⟨v, rfl, Ho.out, hb⟩
def callS (ls : List Lst) : List It × Int := if rightL ls = true then (if knV [115, 117, 98, 115, 116, 114, 105, 110, 103] ls.length = true then subV ls else ([], 241)) else ([], 2)
theorem len_23 {α : Type} {l : List α} (h : l.length = 2 ∨ l.length = 3) : (∃ a b, l = [a, b]) ∨ ∃ a b c, l = [a, b, c] := by
 match l, h with
 | [a, b], _ => exact .inl ⟨a, b, rfl⟩
 | [a, b, c], _ => exact .inr ⟨a, b, c, rfl⟩
theorem callS_any (p : Option Addr) (n c : Nat) (ls : List Lst) (m : Int) (w : World) (he : Env w) (hm : w.cell? ⟨3, 0, none⟩ = some (.int .i64 m)) (hc : Counts w) (hr : Rd w p (ls.map Lst.v)) (hok : OkAs w ls)
  (hR : ∀ x ∈ ls, ∀ y ∈ x.l, R64 y.num) (hsz : ∀ x ∈ ls, ∀ y ∈ x.l, y.text.size ≤ 100000) (hn : n = ls.length) (hnm : n ≤ 1000000) :
  Calls Tryz.prog 7 #[.string ⟨#[115, 117, 98, 115, 116, 114, 105, 110, 103]⟩, .slice p n c] w (Res w (callS ls).1 (callS ls).2) := by
 obtain ⟨i0, hi⟩ := info_parts (show (Tryz.prog.info? 9).map (fun i => (i.zero, i.size, i.bytes)) = some (some (.string ⟨#[]⟩), 1, 16) by kernel_rfl)
 have Hi := hide hi
 have He := hide he
 have Hm := hide hm
 have Hc := hide hc
 have Hr := hide hr
 have Hok := hide hok
 have HR := hide hR
 have Hsz := hide hsz
 have Hn := hide hn
 have Hnm := hide hnm
 have Hrt := hide (right_any p n c ls w he.t8 hn (by omega) hr hok)
 have Hkn : Hid (∀ W, Below w.heap.size w W → Calls Tryz.prog 22 #[.string ⟨#[115, 117, 98, 115, 116, 114, 105, 110, 103]⟩, .int .i64 n] W fun e w' => e = .returned (.bool (knV [115, 117, 98, 115, 116, 114, 105, 110, 103] n)) ∧ Below W.heap.size W w') := fun W hW => known_any ⟨#[115, 117, 98, 115, 116, 114, 105, 110, 103]⟩ n m W (cell_keep hW hm) (hc.keep hW) (by decide)
 have hnl : n < 9223372036854775807 := by omega
 have Hall : Hid (callS ls = if rightL ls = true then (if knV [115, 117, 98, 115, 116, 114, 105, 110, 103] n = true then subV ls else ([], 241)) else ([], 2)) := by show _ = _; unfold callS; rw [hn]
 clear he hm hc hr hok hR hsz hn hnm hi
 rcases Bool.eq_false_or_eq_true (rightL ls) with hq | hq
 rotate_left
 ·rw [hq] at Hrt
  have HA : Hid (callS ls = ([], 2)) := by show _ = _; rw [Hall.out, hq]; rfl
  clear hq Hall
  go_enter Tryz.func7, Tryz.ntmps7
  go_wp2_with fail
  refine Hrt.out.mono ?_
  rintro e w1 ⟨rfl, hb1⟩
  go_wp2
  go_ret2
  exact ⟨.slice none 0 0, by rw [HA.out]; rfl, by rw [HA.out]; exact OwI.nil _ _, hb1⟩
 rw [hq] at Hrt
 rcases Bool.eq_false_or_eq_true (knV [115, 117, 98, 115, 116, 114, 105, 110, 103] n) with hk | hk
 rotate_left
 ·rw [hk] at Hkn
  have HA : Hid (callS ls = ([], 241)) := by show _ = _; rw [Hall.out, hq, hk]; rfl
  clear hq hk Hall
  go_enter Tryz.func7, Tryz.ntmps7
  go_wp2_with fail
  refine Hrt.out.mono ?_
  rintro e w1 ⟨rfl, hb1⟩
  go_wp2_with fail
  refine (Hkn.out w1 hb1).mono ?_
  rintro e w2 ⟨rfl, hb2⟩
  have hB2 := chain0 hb1 hb2
  go_wp2
  go_ret2
  exact ⟨.slice none 0 0, by rw [HA.out]; rfl, by rw [HA.out]; exact OwI.nil _ _, hB2⟩
 have HE : Hid (callS ls = subV ls) := by show _ = _; rw [Hall.out, hq, hk, if_pos rfl, if_pos rfl]
 rw [hk] at Hkn
 have hn23 : ls.length = 2 ∨ ls.length = 3 := by
  rw [← Hn.out]
  unfold knV at hk
  simp [wK0, wK1, wK2, wK3, wK4] at hk
  omega
 clear hq hk Hall
 rcases len_23 hn23 with ⟨la, lb, rfl⟩ | ⟨la, lb, lc, rfl⟩
 ·have hn2 : n = 2 := Hn.out
  subst hn2
  obtain ⟨b0, off0, rfl, hcz⟩ := Hr.out.cellAt 0 la.v rfl
  clear hcz hn23
  go_enter Tryz.func7, Tryz.ntmps7
  go_wp2_with fail
  refine Hrt.out.mono ?_
  rintro e w1 ⟨rfl, hb1⟩
  go_wp2_with fail
  refine (Hkn.out w1 hb1).mono ?_
  rintro e w2 ⟨rfl, hb2⟩
  have hB2 := chain0 hb1 hb2
  clear hb1 hb2 Hkn Hrt
  go_wp2_with fail
  refine (ofItems_sub2 b0 off0 c la lb _ (He.out.keep hB2) (Hr.out.keep hB2) ⟨(Hok.out la (by simp)).1.keep hB2, (Hok.out la (by simp)).2⟩ ⟨(Hok.out lb (by simp)).1.keep hB2, (Hok.out lb (by simp)).2⟩ (HR.out la (by simp)) (HR.out lb (by simp)) (Hsz.out la (by simp))).mono ?_
  rintro e w3 ⟨v, rfl, ho, hb3⟩
  have Ho := hide (ho.mono hB2.size)
  have hB3 := chain0 hB2 hb3
  clear ho hb3
  generalize subV _ = sv at *
  obtain ⟨s1, s2⟩ := sv
  go_wp2
  go_ret2
  exact ⟨v, by rw [HE.out]; rfl, by rw [HE.out]; exact Ho.out, hB3⟩
 ·have hn2 : n = 3 := Hn.out
  subst hn2
  obtain ⟨b0, off0, rfl, hcz⟩ := Hr.out.cellAt 0 la.v rfl
  clear hcz hn23
  go_enter Tryz.func7, Tryz.ntmps7
  go_wp2_with fail
  refine Hrt.out.mono ?_
  rintro e w1 ⟨rfl, hb1⟩
  go_wp2_with fail
  refine (Hkn.out w1 hb1).mono ?_
  rintro e w2 ⟨rfl, hb2⟩
  have hB2 := chain0 hb1 hb2
  clear hb1 hb2 Hkn Hrt
  go_wp2_with fail
  refine (ofItems_sub3 b0 off0 c la lb lc _ (He.out.keep hB2) (Hr.out.keep hB2) ⟨(Hok.out la (by simp)).1.keep hB2, (Hok.out la (by simp)).2⟩ ⟨(Hok.out lb (by simp)).1.keep hB2, (Hok.out lb (by simp)).2⟩ ⟨(Hok.out lc (by simp)).1.keep hB2, (Hok.out lc (by simp)).2⟩ (HR.out la (by simp)) (HR.out lb (by simp)) (HR.out lc (by simp)) (Hsz.out la (by simp))).mono ?_
  rintro e w3 ⟨v, rfl, ho, hb3⟩
  have Ho := hide (ho.mono hB2.size)
  have hB3 := chain0 hB2 hb3
  clear ho hb3
  generalize subV _ = sv at *
  obtain ⟨s1, s2⟩ := sv
  go_wp2
  go_ret2
  exact ⟨v, by rw [HE.out]; rfl, by rw [HE.out]; exact Ho.out, hB3⟩
end Go.Proofs.YtaieiogmolaebaaGreatDoor
namespace Go.Proofs.YtaieiogmolaebaaGreatDoor
set_option maxRecDepth 100000
set_option maxHeartbeats 4000000
open Go.RowKit
theorem call_no (name : ByteArray) (p : Option Addr) (n c : Nat) (ls : List Lst) (m : Int) (w : World) (he : Env w) (hm : w.cell? ⟨3, 0, none⟩ = some (.int .i64 m)) (hc : Counts w) (hr : Rd w p (ls.map Lst.v)) (hok : OkAs w ls)
  (hs : name.size < 4294967281) (hn : n = ls.length) (hnm : n ≤ 1000000) (hno : rightL ls = false ∨ knV name.data.toList n = false) :
  Calls Tryz.prog 7 #[.string name, .slice p n c] w (Res w [] (if rightL ls = true then 241 else 2)) := by
 have Hrt := hide (right_any p n c ls w he.t8 hn (by omega) hr hok)
 have Hkn : Hid (∀ W, Below w.heap.size w W → Calls Tryz.prog 22 #[.string name, .int .i64 n] W fun e w' => e = .returned (.bool (knV name.data.toList n)) ∧ Below W.heap.size W w') := fun W hW => known_any name n m W (cell_keep hW hm) (hc.keep hW) hs
 have hnl : n < 9223372036854775807 := by omega
 clear he hm hc hr hok hs hn hnm
 rcases Bool.eq_false_or_eq_true (rightL ls) with hq | hq
 ·have hk : knV name.data.toList n = false := by
   rcases hno with h | h
   ·rw [hq] at h; cases h
   ·exact h
  rw [hq] at Hrt
  rw [hk] at Hkn
  rw [if_pos hq]
  clear hq hk hno
  go_enter Tryz.func7, Tryz.ntmps7
  go_wp2_with fail
  refine Hrt.out.mono ?_
  rintro e w1 ⟨rfl, hb1⟩
  go_wp2_with fail
  refine (Hkn.out w1 hb1).mono ?_
  rintro e w2 ⟨rfl, hb2⟩
  have hB2 := chain0 hb1 hb2
  go_wp2
  go_ret2
  exact ⟨.slice none 0 0, rfl, OwI.nil _ _, hB2⟩
 ·rw [hq] at Hrt
  rw [if_neg (by rw [hq]; decide)]
  clear hq hno Hkn
  go_enter Tryz.func7, Tryz.ntmps7
  go_wp2_with fail
  refine Hrt.out.mono ?_
  rintro e w1 ⟨rfl, hb1⟩
  go_wp2
  go_ret2
  exact ⟨.slice none 0 0, rfl, OwI.nil _ _, hb1⟩
theorem ofItems_true (p : Option Addr) (c : Nat) (w : World) : Calls Tryz.prog 23 #[.string ⟨#[116, 114, 117, 101]⟩, .slice p 0 c] w fun e w' => ∃ v, e = .returned (.tuple #[v, .int .i64 0, .bool true]) ∧ OwI w' w.heap.size v [⟨4, bN true, ⟨#[]⟩, 0⟩] ∧ Below w.heap.size w w' := by
 go_enter Tryz.func23, Tryz.ntmps23
 go_wp2_with fail
 refine (vtruth_own true _).mono ?_
 rintro e w1 ⟨v, rfl, ho, hb⟩
 have Ho := hide ho
 clear ho
 go_wp2
 go_ret3
 exact ⟨v, rfl, Ho.out, hb⟩
theorem ofItems_false (p : Option Addr) (c : Nat) (w : World) : Calls Tryz.prog 23 #[.string ⟨#[102, 97, 108, 115, 101]⟩, .slice p 0 c] w fun e w' => ∃ v, e = .returned (.tuple #[v, .int .i64 0, .bool true]) ∧ OwI w' w.heap.size v [⟨4, bN false, ⟨#[]⟩, 0⟩] ∧ Below w.heap.size w w' := by
 go_enter Tryz.func23, Tryz.ntmps23
 go_wp2_with fail
 refine (vtruth_own false _).mono ?_
 rintro e w1 ⟨v, rfl, ho, hb⟩
 have Ho := hide ho
 clear ho
 go_wp2
 go_ret3
 exact ⟨v, rfl, Ho.out, hb⟩
theorem call_true (p : Option Addr) (c : Nat) (m : Int) (w : World) (he : Env w) (hm : w.cell? ⟨3, 0, none⟩ = some (.int .i64 m)) (hc : Counts w) :
  Calls Tryz.prog 7 #[.string ⟨#[116, 114, 117, 101]⟩, .slice p 0 c] w (Res w [⟨4, bN true, ⟨#[]⟩, 0⟩] 0) := by
 have Hrt := hide (right_any p 0 c [] w he.t8 rfl (by decide) (Rd.nil w p) (fun x hx => by cases hx))
 rw [show rightL [] = true from rfl] at Hrt
 have Hkn : Hid (∀ W, Below w.heap.size w W → Calls Tryz.prog 22 #[.string ⟨#[116, 114, 117, 101]⟩, .int .i64 0] W fun e w' => e = .returned (.bool (knV [116, 114, 117, 101] 0)) ∧ Below W.heap.size W w') := fun W hW => known_any ⟨#[116, 114, 117, 101]⟩ 0 m W (cell_keep hW hm) (hc.keep hW) (by decide)
 rw [show knV [116, 114, 117, 101] 0 = true by decide +kernel] at Hkn
 clear he hm hc
 go_enter Tryz.func7, Tryz.ntmps7
 go_wp2_with fail
 refine Hrt.out.mono ?_
 rintro e w1 ⟨rfl, hb1⟩
 go_wp2_with fail
 refine (Hkn.out w1 hb1).mono ?_
 rintro e w2 ⟨rfl, hb2⟩
 have hB2 := chain0 hb1 hb2
 clear hb1 hb2
 go_wp2_with fail
 refine (ofItems_true p c w2).mono ?_
 rintro e w3 ⟨v, rfl, ho, hb3⟩
 have Ho := hide (ho.mono hB2.size)
 have hB3 := chain0 hB2 hb3
 clear ho hb3
 go_wp2
 go_ret2
 exact ⟨v, rfl, Ho.out, hB3⟩
theorem call_false (p : Option Addr) (c : Nat) (m : Int) (w : World) (he : Env w) (hm : w.cell? ⟨3, 0, none⟩ = some (.int .i64 m)) (hc : Counts w) :
  Calls Tryz.prog 7 #[.string ⟨#[102, 97, 108, 115, 101]⟩, .slice p 0 c] w (Res w [⟨4, bN false, ⟨#[]⟩, 0⟩] 0) := by
 have Hrt := hide (right_any p 0 c [] w he.t8 rfl (by decide) (Rd.nil w p) (fun x hx => by cases hx))
 rw [show rightL [] = true from rfl] at Hrt
 have Hkn : Hid (∀ W, Below w.heap.size w W → Calls Tryz.prog 22 #[.string ⟨#[102, 97, 108, 115, 101]⟩, .int .i64 0] W fun e w' => e = .returned (.bool (knV [102, 97, 108, 115, 101] 0)) ∧ Below W.heap.size W w') := fun W hW => known_any ⟨#[102, 97, 108, 115, 101]⟩ 0 m W (cell_keep hW hm) (hc.keep hW) (by decide)
 rw [show knV [102, 97, 108, 115, 101] 0 = true by decide +kernel] at Hkn
 clear he hm hc
 go_enter Tryz.func7, Tryz.ntmps7
 go_wp2_with fail
 refine Hrt.out.mono ?_
 rintro e w1 ⟨rfl, hb1⟩
 go_wp2_with fail
 refine (Hkn.out w1 hb1).mono ?_
 rintro e w2 ⟨rfl, hb2⟩
 have hB2 := chain0 hb1 hb2
 clear hb1 hb2
 go_wp2_with fail
 refine (ofItems_false p c w2).mono ?_
 rintro e w3 ⟨v, rfl, ho, hb3⟩
 have Ho := hide (ho.mono hB2.size)
 have hB3 := chain0 hB2 hb3
 clear ho hb3
 go_wp2
 go_ret2
 exact ⟨v, rfl, Ho.out, hB3⟩
end Go.Proofs.YtaieiogmolaebaaGreatDoor
