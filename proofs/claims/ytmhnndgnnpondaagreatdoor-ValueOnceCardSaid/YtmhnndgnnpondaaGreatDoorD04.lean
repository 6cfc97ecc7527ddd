/- value.distinct; value.ofItems at distinct-values, reverse, string-join. value.ofItems at distinct-values, reverse, string-join. value.Call at distinct-values, reverse, string-join. -/
import Derived.Test.YtmhnndgnnpondaaGreatDoorC23
import Derived.Test.YtmhnndgnnpondaaGreatDoorD03
namespace Go.Proofs.YtmhnndgnnpondaaGreatDoor
open Go.RowKit
def plainI (x : It) : It := if x.kind = 1 then ⟨3, 0, x.text, 0⟩ else x
def addI (acc : List It) (x : It) : List It := if (acc.any fun y => eqI x y) = true then acc else acc ++ [x]
def distA : List It → List It → List It
 | acc, [] => acc
 | acc, x :: r => distA (addI acc (plainI x)) r
def distL (l : List It) : List It := distA [] l
theorem drop_itm {α : Type} (l : List α) (k : Nat) (x : α) (hx : l[k]? = some x) : l.drop k = x :: l.drop (k + 1) := by
 obtain ⟨h1, h2⟩ := List.getElem?_eq_some_iff.1 hx
 rw [List.drop_eq_getElem_cons h1, h2]
theorem addI_len (acc : List It) (x : It) : (addI acc x).length ≤ acc.length + 1 := by
 unfold addI
 split
 ·omega
 ·simp
theorem addI_yes {acc : List It} {x : It} (h : (acc.any fun y => eqI x y) = true) : addI acc x = acc := if_pos h
theorem addI_no {acc : List It} {x : It} (h : (acc.any fun y => eqI x y) = false) : addI acc x = acc ++ [x] := if_neg (by rw [h]; decide)
set_option maxRecDepth 100000 in
set_option maxHeartbeats 2000000 in
theorem distinct_any (p : Option Addr) (n c : Nat) (l : List It) (w : World) (hr : RdI w p l) (hn : n = l.length) (hle : n ≤ 1000000) :
  Calls Tryz.prog 62 #[.slice p n c] w fun e w' => ∃ v, e = .returned v ∧ OwI w' w.heap.size v (distL l) ∧ Below w.heap.size w w' := by
 obtain ⟨i0, hi, hz0, hz1, hz2⟩ := info_parts itemInfo
 have Hi : Hid (Tryz.prog.info? 31 = some i0 ∧ i0.zero = some (.agg #[.int .u8 0, .int .i64 0, .string ⟨#[]⟩, .int .i64 0]) ∧ i0.size = 4 ∧ i0.bytes = 40) := ⟨hi, hz0, hz1, hz2⟩
 have Hr := hide hr
 have Hn := hide hn
 clear hr hn hi hz0 hz1 hz2
 go_enter Tryz.func62, Tryz.ntmps62
 go_wp2_with fail
 go_loopw [3, 8] (fun v iv W => ∃ (k : Nat) (out : List It), k ≤ n ∧ iv = .int .i64 k ∧ OwI W w.heap.size v out ∧ Hid (distA out (l.drop k) = distL l) ∧ Below w.heap.size w W ∧ out.length ≤ k) (fun _ iv _ => n - (intOf iv).toNat)
 case atStart => exact ⟨0, [], Nat.zero_le _, rfl, OwI.nil _ _, hide rfl, Below.refl _ _, Nat.le_refl _⟩
 case round =>
  obtain ⟨k, out, hk, rfl, ho, HD, hB, hol⟩ := hrel
  obtain ⟨av, cv, hv⟩ := ow_forms ho
  subst hv
  by_cases hlt : k < n
  ·have hI : (k : Int) < (n : Int) := by omega
   obtain ⟨x, hx⟩ : ∃ x, l[k]? = some x := ⟨_, List.getElem?_eq_getElem (by have := Hn.out; omega)⟩
   obtain ⟨b1, off1, e1, c0, c1, c2, c3⟩ := (Hr.out.keep hB).at k x hx
   subst e1
   have hix := ix_item b1 off1 n c k hlt
   have HD2 : Hid (distA (addI out (plainI x)) (l.drop (k + 1)) = distL l) := by
    show _ = _
    rw [← HD.out, drop_itm l k x hx]
    rfl
   clear hx HD
   obtain ⟨xk, xa, xt, xd⟩ := x
   dsimp only at c0 c1 c2 c3
   have Ho0 := hide ho
   have hbs0 := hB.size
   clear ho
   obtain ⟨m, hm⟩ : ∃ m, m = out.length := ⟨_, rfl⟩
   rw [← hm] at Ho0 hol ⊢
   have Hm := hide hm
   clear hm
   by_cases h1 : xk = 1
   ·subst h1
    have HD2 : Hid (distA (addI out ⟨3, 0, xt, 0⟩) (l.drop (k + 1)) = distL l) := HD2.out
    go_wp2_with fail
    refine (contains_any ⟨3, 0, xt, 0⟩ av m cv out _ ((OwI.keep Ho0.out ((Below.refl _ _).alloc (Nat.le_refl _) _)).rd) Hm.out (by omega)).mono ?_
    rintro e w2 ⟨rfl, hb2⟩
    have Ho := hide (OwI.keep (OwI.keep Ho0.out ((Below.refl _ _).alloc (Nat.le_refl _) (.cells #[.int .u8 3, .int .i64 0, .string xt, .int .i64 0] 31))) hb2)
    have hbk : Blk w2 wr.heap.size 31 #[.int .u8 3, .int .i64 0, .string xt, .int .i64 0] := (Blk.new wr 31 _).keep hb2
    have x0 := hbk.cell 0
    have x1 := hbk.cell 1
    have x2 := hbk.cell 2
    have x3 := hbk.cell 3
    simp only [List.getElem?_toArray, List.getElem?_cons_zero, List.getElem?_cons_succ] at x0 x1 x2 x3
    clear hbk
    have hB0 := hB
    clear hB
    have hB := chain0 (hB0.alloc hB0.size _) hb2
    clear hb2 hB0 Ho0 c0 c1 c2 c3 hix
    rcases Bool.eq_false_or_eq_true (out.any fun y => eqI (⟨3, 0, xt, 0⟩ : It) y) with hq | hq
    ·have HD3 : Hid (distA out (l.drop (k + 1)) = distL l) := by show _ = _; rw [← HD2.out, addI_yes hq]
     clear HD2
     rw [hq]
     clear hq
     go_wp2
     go_roundw
     case rel => exact ⟨k + 1, out, by omega, by simp, Ho.out, HD3, hB, by have := Hm.out; omega⟩
     case measure => simp [intOf]; omega
    ·have HD3 : Hid (distA (out ++ [(⟨3, 0, xt, 0⟩ : It)]) (l.drop (k + 1)) = distL l) := by show _ = _; rw [← HD2.out, addI_no hq]
     clear HD2
     rw [hq]
     clear hq
     have hka := (Below.refl w2.heap.size w2).alloc (Nat.le_refl _) (.cells (itC (⟨3, 0, xt, 0⟩ : It)).toArray 31)
     have HO2 := hide (ow_keep Ho.out hka)
     have Hrd := hide (RdI.new w2 31 [(⟨3, 0, xt, 0⟩ : It)])
     have hbs := hB.size
     clear hka
     go_wp2_with (at_builtin; refine wpList_appR rfl _ _ 22 rfl i0 _ 40 1 Tryz.underlying22 Hi.out.1 Hi.out.2.1 Hi.out.2.2.1 Hi.out.2.2.2 rfl (by decide) rfl rfl (one_items [(⟨3, 0, xt, 0⟩ : It)]) HO2.out Hrd.out (m := 1) rfl ?e2 ?e3 ?e4 ?_)
     case e2 => have := Hm.out; omega
     case e3 => have := Hm.out; omega
     case e4 => simp; omega
     intro v3 W3 own3 hg3 hv3
     have own4 : OwI W3 w.heap.size v3 (out ++ [(⟨3, 0, xt, 0⟩ : It)]) := by
      unfold OwI
      rw [icells_append, List.length_append, List.length_singleton]
      exact own3
     have hB3 : Below w.heap.size w W3 := (hB.alloc hB.size _).grown hg3 (by simp; omega) fun b hb => (ow_lt Ho.out b hb).1
     have Hown4 := hide own4
     clear own3 hg3 hv3 own4 HO2 Hrd hB
     go_wp2
     go_roundw
     case rel => exact ⟨k + 1, out ++ [(⟨3, 0, xt, 0⟩ : It)], by omega, by simp, Hown4.out, HD3, hB3, by have := Hm.out; simp; omega⟩
     case measure => simp [intOf]; omega
   ·have h1f : decide ((xk : Int) = 1) = false := by simp; omega
    have hpl : plainI ⟨xk, xa, xt, xd⟩ = ⟨xk, xa, xt, xd⟩ := if_neg h1
    rw [hpl] at HD2
    have h1g : ((xk : Int) == 1) = false := by simpa using (show ¬ (xk : Int) = 1 by omega)
    have h1h : ¬ (xk : Int) = 1 := by omega
    clear hpl h1
    go_wp2_with fail
    refine (contains_any ⟨xk, xa, xt, xd⟩ av m cv out _ ((OwI.keep Ho0.out ((Below.refl _ _).alloc (Nat.le_refl _) _)).rd) Hm.out (by omega)).mono ?_
    rintro e w2 ⟨rfl, hb2⟩
    have Ho := hide (OwI.keep (OwI.keep Ho0.out ((Below.refl _ _).alloc (Nat.le_refl _) (.cells #[.int .u8 xk, .int .i64 xa, .string xt, .int .i64 xd] 31))) hb2)
    have hbk : Blk w2 wr.heap.size 31 #[.int .u8 xk, .int .i64 xa, .string xt, .int .i64 xd] := (Blk.new wr 31 _).keep hb2
    have x0 := hbk.cell 0
    have x1 := hbk.cell 1
    have x2 := hbk.cell 2
    have x3 := hbk.cell 3
    simp only [List.getElem?_toArray, List.getElem?_cons_zero, List.getElem?_cons_succ] at x0 x1 x2 x3
    clear hbk
    have hB0 := hB
    clear hB
    have hB := chain0 (hB0.alloc hB0.size _) hb2
    clear hb2 hB0 Ho0 c0 c1 c2 c3 hix
    rcases Bool.eq_false_or_eq_true (out.any fun y => eqI (⟨xk, xa, xt, xd⟩ : It) y) with hq | hq
    ·have HD3 : Hid (distA out (l.drop (k + 1)) = distL l) := by show _ = _; rw [← HD2.out, addI_yes hq]
     clear HD2
     rw [hq]
     clear hq
     go_wp2
     go_roundw
     case rel => exact ⟨k + 1, out, by omega, by simp, Ho.out, HD3, hB, by have := Hm.out; omega⟩
     case measure => simp [intOf]; omega
    ·have HD3 : Hid (distA (out ++ [(⟨xk, xa, xt, xd⟩ : It)]) (l.drop (k + 1)) = distL l) := by show _ = _; rw [← HD2.out, addI_no hq]
     clear HD2
     rw [hq]
     clear hq
     have hka := (Below.refl w2.heap.size w2).alloc (Nat.le_refl _) (.cells (itC (⟨xk, xa, xt, xd⟩ : It)).toArray 31)
     have HO2 := hide (ow_keep Ho.out hka)
     have Hrd := hide (RdI.new w2 31 [(⟨xk, xa, xt, xd⟩ : It)])
     have hbs := hB.size
     clear hka
     go_wp2_with (at_builtin; refine wpList_appR rfl _ _ 22 rfl i0 _ 40 1 Tryz.underlying22 Hi.out.1 Hi.out.2.1 Hi.out.2.2.1 Hi.out.2.2.2 rfl (by decide) rfl rfl (one_items [(⟨xk, xa, xt, xd⟩ : It)]) HO2.out Hrd.out (m := 1) rfl ?e2 ?e3 ?e4 ?_)
     case e2 => have := Hm.out; omega
     case e3 => have := Hm.out; omega
     case e4 => simp; omega
     intro v3 W3 own3 hg3 hv3
     have own4 : OwI W3 w.heap.size v3 (out ++ [(⟨xk, xa, xt, xd⟩ : It)]) := by
      unfold OwI
      rw [icells_append, List.length_append, List.length_singleton]
      exact own3
     have hB3 : Below w.heap.size w W3 := (hB.alloc hB.size _).grown hg3 (by simp; omega) fun b hb => (ow_lt Ho.out b hb).1
     have Hown4 := hide own4
     clear own3 hg3 hv3 own4 HO2 Hrd hB
     go_wp2
     go_roundw
     case rel => exact ⟨k + 1, out ++ [(⟨xk, xa, xt, xd⟩ : It)], by omega, by simp, Hown4.out, HD3, hB3, by have := Hm.out; simp; omega⟩
     case measure => simp [intOf]; omega
  ·have hI : ¬ (k : Int) < (n : Int) := by omega
   have hx : out = distL l := by rw [← HD.out, List.drop_eq_nil_of_le (by have := Hn.out; omega)]; rfl
   have Hx := hide hx
   have Ho := hide ho
   clear hx HD ho
   go_wp2
   go_ret
   exact ⟨_, rfl, by rw [← Hx.out]; exact Ho.out, hB⟩
end Go.Proofs.YtmhnndgnnpondaaGreatDoor
namespace Go.Proofs.YtmhnndgnnpondaaGreatDoor
set_option maxRecDepth 100000
set_option maxHeartbeats 4000000
open Go.RowKit
def fDistinct (l : List It) : List It × Int := (distL l, 0)
def fReverse (l : List It) : List It × Int := (l.reverse, 0)
theorem ofItems_distinct (b off c : Nat) (la : Lst) (w : World) (hr : Rd w (some ⟨b, off, none⟩) ([la].map Lst.v)) (hok : OkA w la) (hL : la.l.length ≤ 1000000) :
  Calls Tryz.prog 34 #[.string ⟨#[100, 105, 115, 116, 105, 110, 99, 116, 45, 118, 97, 108, 117, 101, 115]⟩, .slice (some ⟨b, off, none⟩) 1 c] w fun e w' => ∃ v, e = .returned (.tuple #[v, .int .i64 (fDistinct la.l).2, .bool true]) ∧ OwI w' w.heap.size v (fDistinct la.l).1 ∧ Below w.heap.size w w' := by
 show Calls _ _ _ _ fun e w' => ∃ v, e = .returned (.tuple #[v, .int .i64 0, .bool true]) ∧ OwI w' w.heap.size v (distL la.l) ∧ Below w.heap.size w w'
 have hix := ix_rowA b off 1 c (by decide)
 obtain ⟨b1, off1, e1, h0⟩ := hr.cellAt 0 _ rfl
 injection e1 with e1
 injection e1 with e1 e2
 subst e1 e2
 rw [Nat.add_zero] at h0
 obtain ⟨aa, al, ac⟩ := la
 obtain ⟨q, hq⟩ : ∃ q, q = al.length := ⟨_, rfl⟩
 have h1 : w.cell? ⟨b, off, none⟩ = some (.slice aa q ac) := by rw [hq]; exact h0
 dsimp only at hL ⊢
 have Hd := hide (distinct_any aa q ac al w hok.1 hq (by rw [hq]; exact hL))
 clear h0 hr hok hL hq
 go_enter Tryz.func34, Tryz.ntmps34
 go_wp2_with fail
 refine Hd.out.mono ?_
 rintro e w1 ⟨v, rfl, ho, hb⟩
 have Ho := hide ho
 clear ho h1
 go_wp2
 go_ret3
 exact ⟨v, rfl, Ho.out, hb⟩
theorem ofItems_reverse (b off c : Nat) (la : Lst) (w : World) (hr : Rd w (some ⟨b, off, none⟩) ([la].map Lst.v)) (hok : OkA w la) (hL : la.l.length ≤ 1000000) :
  Calls Tryz.prog 34 #[.string ⟨#[114, 101, 118, 101, 114, 115, 101]⟩, .slice (some ⟨b, off, none⟩) 1 c] w fun e w' => ∃ v, e = .returned (.tuple #[v, .int .i64 (fReverse la.l).2, .bool true]) ∧ OwI w' w.heap.size v (fReverse la.l).1 ∧ Below w.heap.size w w' := by
 show Calls _ _ _ _ fun e w' => ∃ v, e = .returned (.tuple #[v, .int .i64 0, .bool true]) ∧ OwI w' w.heap.size v la.l.reverse ∧ Below w.heap.size w w'
 have hix := ix_rowA b off 1 c (by decide)
 obtain ⟨b1, off1, e1, h0⟩ := hr.cellAt 0 _ rfl
 injection e1 with e1
 injection e1 with e1 e2
 subst e1 e2
 rw [Nat.add_zero] at h0
 obtain ⟨aa, al, ac⟩ := la
 obtain ⟨q, hq⟩ : ∃ q, q = al.length := ⟨_, rfl⟩
 have h1 : w.cell? ⟨b, off, none⟩ = some (.slice aa q ac) := by rw [hq]; exact h0
 dsimp only at hL ⊢
 have Hd := hide (clone_any aa q ac al w hok.1 hq (by rw [hq]; exact hL))
 have HL := hide hL
 clear h0 hr hok hL hq
 go_enter Tryz.func34, Tryz.ntmps34
 go_wp2_with fail
 refine Hd.out.mono ?_
 rintro e w1 ⟨v, rfl, ho, hb⟩
 have Hrv := hide (reverse_any v w.heap.size al w1 ho HL.out)
 have hlt := fun b hb => (ow_lt ho b hb).1
 have Hlt := hide hlt
 clear ho h1 hlt
 go_wp2_with fail
 refine Hrv.out.mono ?_
 rintro e w2 ⟨rfl, ho2, hg2⟩
 have Ho := hide ho2
 have hb2 : Below w.heap.size w w2 := hb.grown hg2 hb.size Hlt.out
 clear ho2 hg2 hb
 go_wp2
 go_ret3
 exact ⟨v, rfl, Ho.out, hb2⟩
end Go.Proofs.YtmhnndgnnpondaaGreatDoor
namespace Go.Proofs.YtmhnndgnnpondaaGreatDoor
set_option maxRecDepth 100000
set_option maxHeartbeats 4000000
open Go.RowKit
theorem callO_distinct (p : Option Addr) (n c : Nat) (ls : List Lst) (m : Int) (w : World) (he : Env w) (hm : w.cell? ⟨3, 0, none⟩ = some (.int .i64 m)) (hc : Counts w) (hr : Rd w p (ls.map Lst.v)) (hok : OkAs w ls)
  (hL : ∀ x ∈ ls, x.l.length ≤ 1000000) (hn : n = ls.length) (hnm : n ≤ 1000000) :
  Calls Tryz.prog 9 #[.string ⟨#[100, 105, 115, 116, 105, 110, 99, 116, 45, 118, 97, 108, 117, 101, 115]⟩, .slice p n c] w (Res w (callO [100, 105, 115, 116, 105, 110, 99, 116, 45, 118, 97, 108, 117, 101, 115] fDistinct ls).1 (callO [100, 105, 115, 116, 105, 110, 99, 116, 45, 118, 97, 108, 117, 101, 115] fDistinct ls).2) := by
 have He := hide he
 have Hr := hide hr
 have Hok := hide hok
 have Hn := hide hn
 have HL := hide hL
 have Hrt := hide (right_any p n c ls w he.t8 hn (by omega) hr hok)
 have Hkn : Hid (∀ W, Below w.heap.size w W → Calls Tryz.prog 33 #[.string ⟨#[100, 105, 115, 116, 105, 110, 99, 116, 45, 118, 97, 108, 117, 101, 115]⟩, .int .i64 n] W fun e w' => e = .returned (.bool (knV [100, 105, 115, 116, 105, 110, 99, 116, 45, 118, 97, 108, 117, 101, 115] n)) ∧ Below W.heap.size W w') := fun W hW => known_any ⟨#[100, 105, 115, 116, 105, 110, 99, 116, 45, 118, 97, 108, 117, 101, 115]⟩ n m W (cell_keep hW hm) (hc.keep hW) (by decide)
 have hnl : n < 9223372036854775807 := by omega
 have Hall : Hid (callO [100, 105, 115, 116, 105, 110, 99, 116, 45, 118, 97, 108, 117, 101, 115] fDistinct ls = if rightL ls = true then (if knV [100, 105, 115, 116, 105, 110, 99, 116, 45, 118, 97, 108, 117, 101, 115] n = true then one1 fDistinct ls else ([], 241)) else ([], 2)) := by show _ = _; unfold callO; rw [hn]
 clear he hm hc hr hok hL hn hnm
 rcases Bool.eq_false_or_eq_true (rightL ls) with hq | hq
 rotate_left
 ·rw [hq] at Hrt
  have HA : Hid (callO [100, 105, 115, 116, 105, 110, 99, 116, 45, 118, 97, 108, 117, 101, 115] fDistinct ls = ([], 2)) := by show _ = _; rw [Hall.out, hq]; rfl
  clear hq Hall
  go_enter Tryz.func9, Tryz.ntmps9
  go_wp2_with fail
  refine Hrt.out.mono ?_
  rintro e w1 ⟨rfl, hb1⟩
  go_wp2
  go_ret2
  exact ⟨.slice none 0 0, by rw [HA.out]; rfl, by rw [HA.out]; exact OwI.nil _ _, hb1⟩
 rw [hq] at Hrt
 rcases Bool.eq_false_or_eq_true (knV [100, 105, 115, 116, 105, 110, 99, 116, 45, 118, 97, 108, 117, 101, 115] n) with hk | hk
 rotate_left
 ·rw [hk] at Hkn
  have HA : Hid (callO [100, 105, 115, 116, 105, 110, 99, 116, 45, 118, 97, 108, 117, 101, 115] fDistinct ls = ([], 241)) := by show _ = _; rw [Hall.out, hq, hk]; rfl
  clear hq hk Hall
  go_enter Tryz.func9, Tryz.ntmps9
  go_wp2_with fail
  refine Hrt.out.mono ?_
  rintro e w1 ⟨rfl, hb1⟩
  go_wp2_with fail
  refine (Hkn.out w1 hb1).mono ?_
  rintro e w2 ⟨rfl, hb2⟩
  have hB2 := chain0 hb1 hb2
  go_wp2
  go_ret2
  exact ⟨.slice none 0 0, by rw [HA.out]; rfl, by rw [HA.out]; exact OwI.nil _ _, hB2⟩
 have HE : Hid (callO [100, 105, 115, 116, 105, 110, 99, 116, 45, 118, 97, 108, 117, 101, 115] fDistinct ls = one1 fDistinct ls) := by show _ = _; rw [Hall.out, hq, hk, if_pos rfl, if_pos rfl]
 rw [hk] at Hkn
 have hn1 : ls.length = 1 := by
  rw [← Hn.out]
  unfold knV at hk
  simp [wK0, wK1] at hk
  omega
 clear hq hk Hall
 obtain ⟨la, rfl⟩ := len_1 hn1
 have hn2 : n = 1 := Hn.out
 subst hn2
 obtain ⟨b0, off0, rfl, hcz⟩ := Hr.out.cellAt 0 la.v rfl
 clear hcz hn1
 go_enter Tryz.func9, Tryz.ntmps9
 go_wp2_with fail
 refine Hrt.out.mono ?_
 rintro e w1 ⟨rfl, hb1⟩
 go_wp2_with fail
 refine (Hkn.out w1 hb1).mono ?_
 rintro e w2 ⟨rfl, hb2⟩
 have hB2 := chain0 hb1 hb2
 clear hb1 hb2 Hkn Hrt
 go_wp2_with fail
 refine (ofItems_distinct b0 off0 c la _ (Hr.out.keep hB2) ⟨(Hok.out la (by simp)).1.keep hB2, (Hok.out la (by simp)).2⟩ (HL.out la (by simp))).mono ?_
 rintro e w3 ⟨v, rfl, ho, hb3⟩
 have Ho := hide (ho.mono hB2.size)
 have hB3 := chain0 hB2 hb3
 clear ho hb3
 have HE2 : Hid (callO [100, 105, 115, 116, 105, 110, 99, 116, 45, 118, 97, 108, 117, 101, 115] fDistinct [la] = fDistinct la.l) := HE.out
 generalize fDistinct la.l = sv at *
 obtain ⟨s1, s2⟩ := sv
 go_wp2
 go_ret2
 exact ⟨v, by rw [HE2.out]; rfl, by rw [HE2.out]; exact Ho.out, hB3⟩
theorem callO_reverse (p : Option Addr) (n c : Nat) (ls : List Lst) (m : Int) (w : World) (he : Env w) (hm : w.cell? ⟨3, 0, none⟩ = some (.int .i64 m)) (hc : Counts w) (hr : Rd w p (ls.map Lst.v)) (hok : OkAs w ls)
  (hL : ∀ x ∈ ls, x.l.length ≤ 1000000) (hn : n = ls.length) (hnm : n ≤ 1000000) :
  Calls Tryz.prog 9 #[.string ⟨#[114, 101, 118, 101, 114, 115, 101]⟩, .slice p n c] w (Res w (callO [114, 101, 118, 101, 114, 115, 101] fReverse ls).1 (callO [114, 101, 118, 101, 114, 115, 101] fReverse ls).2) := by
 have He := hide he
 have Hr := hide hr
 have Hok := hide hok
 have Hn := hide hn
 have HL := hide hL
 have Hrt := hide (right_any p n c ls w he.t8 hn (by omega) hr hok)
 have Hkn : Hid (∀ W, Below w.heap.size w W → Calls Tryz.prog 33 #[.string ⟨#[114, 101, 118, 101, 114, 115, 101]⟩, .int .i64 n] W fun e w' => e = .returned (.bool (knV [114, 101, 118, 101, 114, 115, 101] n)) ∧ Below W.heap.size W w') := fun W hW => known_any ⟨#[114, 101, 118, 101, 114, 115, 101]⟩ n m W (cell_keep hW hm) (hc.keep hW) (by decide)
 have hnl : n < 9223372036854775807 := by omega
 have Hall : Hid (callO [114, 101, 118, 101, 114, 115, 101] fReverse ls = if rightL ls = true then (if knV [114, 101, 118, 101, 114, 115, 101] n = true then one1 fReverse ls else ([], 241)) else ([], 2)) := by show _ = _; unfold callO; rw [hn]
 clear he hm hc hr hok hL hn hnm
 rcases Bool.eq_false_or_eq_true (rightL ls) with hq | hq
 rotate_left
 ·rw [hq] at Hrt
  have HA : Hid (callO [114, 101, 118, 101, 114, 115, 101] fReverse ls = ([], 2)) := by show _ = _; rw [Hall.out, hq]; rfl
  clear hq Hall
  go_enter Tryz.func9, Tryz.ntmps9
  go_wp2_with fail
  refine Hrt.out.mono ?_
  rintro e w1 ⟨rfl, hb1⟩
  go_wp2
  go_ret2
  exact ⟨.slice none 0 0, by rw [HA.out]; rfl, by rw [HA.out]; exact OwI.nil _ _, hb1⟩
 rw [hq] at Hrt
 rcases Bool.eq_false_or_eq_true (knV [114, 101, 118, 101, 114, 115, 101] n) with hk | hk
 rotate_left
 ·rw [hk] at Hkn
  have HA : Hid (callO [114, 101, 118, 101, 114, 115, 101] fReverse ls = ([], 241)) := by show _ = _; rw [Hall.out, hq, hk]; rfl
  clear hq hk Hall
  go_enter Tryz.func9, Tryz.ntmps9
  go_wp2_with fail
  refine Hrt.out.mono ?_
  rintro e w1 ⟨rfl, hb1⟩
  go_wp2_with fail
  refine (Hkn.out w1 hb1).mono ?_
  rintro e w2 ⟨rfl, hb2⟩
  have hB2 := chain0 hb1 hb2
  go_wp2
  go_ret2
  exact ⟨.slice none 0 0, by rw [HA.out]; rfl, by rw [HA.out]; exact OwI.nil _ _, hB2⟩
 have HE : Hid (callO [114, 101, 118, 101, 114, 115, 101] fReverse ls = one1 fReverse ls) := by show _ = _; rw [Hall.out, hq, hk, if_pos rfl, if_pos rfl]
 rw [hk] at Hkn
 have hn1 : ls.length = 1 := by
  rw [← Hn.out]
  unfold knV at hk
  simp [wK0, wK1] at hk
  omega
 clear hq hk Hall
 obtain ⟨la, rfl⟩ := len_1 hn1
 have hn2 : n = 1 := Hn.out
 subst hn2
 obtain ⟨b0, off0, rfl, hcz⟩ := Hr.out.cellAt 0 la.v rfl
 clear hcz hn1
 go_enter Tryz.func9, Tryz.ntmps9
 go_wp2_with fail
 refine Hrt.out.mono ?_
 rintro e w1 ⟨rfl, hb1⟩
 go_wp2_with fail
 refine (Hkn.out w1 hb1).mono ?_
 rintro e w2 ⟨rfl, hb2⟩
 have hB2 := chain0 hb1 hb2
 clear hb1 hb2 Hkn Hrt
 go_wp2_with fail
 refine (ofItems_reverse b0 off0 c la _ (Hr.out.keep hB2) ⟨(Hok.out la (by simp)).1.keep hB2, (Hok.out la (by simp)).2⟩ (HL.out la (by simp))).mono ?_
 rintro e w3 ⟨v, rfl, ho, hb3⟩
 have Ho := hide (ho.mono hB2.size)
 have hB3 := chain0 hB2 hb3
 clear ho hb3
 have HE2 : Hid (callO [114, 101, 118, 101, 114, 115, 101] fReverse [la] = fReverse la.l) := HE.out
 generalize fReverse la.l = sv at *
 obtain ⟨s1, s2⟩ := sv
 go_wp2
 go_ret2
 exact ⟨v, by rw [HE2.out]; rfl, by rw [HE2.out]; exact Ho.out, hB3⟩
end Go.Proofs.YtmhnndgnnpondaaGreatDoor
