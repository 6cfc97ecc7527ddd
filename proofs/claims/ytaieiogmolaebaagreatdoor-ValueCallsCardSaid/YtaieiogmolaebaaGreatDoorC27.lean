/- value.ofItems at distinct-values, reverse, string-join. value.Call at distinct-values, reverse, string-join. -/
import Derived.Test.YtaieiogmolaebaaGreatDoorC26
import Derived.Test.YtaieiogmolaebaaGreatDoorC23
namespace Go.Proofs.YtaieiogmolaebaaGreatDoor
set_option maxRecDepth 100000
set_option maxHeartbeats 4000000
open Go.RowKit
def fDistinct (l : List It) : List It × Int := (distL l, 0)
def fReverse (l : List It) : List It × Int := (l.reverse, 0)
def txL (l : List It) : List ByteArray := l.map txt
def joinV : List Lst → List It × Int
 | [a] => joinR ⟨#[]⟩ (txL a.l)
 | [a, b] => if (strV b.l).2 = 0 then joinR (strV b.l).1 (txL a.l) else ([], (strV b.l).2)
 | _ => ([], 0)
theorem ofItems_distinct (b off c : Nat) (la : Lst) (w : World) (hr : Rd w (some ⟨b, off, none⟩) ([la].map Lst.v)) (hok : OkA w la) (hL : la.l.length ≤ 1000000) :
  Calls Tryz.prog 23 #[.string ⟨#[100, 105, 115, 116, 105, 110, 99, 116, 45, 118, 97, 108, 117, 101, 115]⟩, .slice (some ⟨b, off, none⟩) 1 c] w fun e w' => ∃ v, e = .returned (.tuple #[v, .int .i64 (fDistinct la.l).2, .bool true]) ∧ OwI w' w.heap.size v (fDistinct la.l).1 ∧ Below w.heap.size w w' := by
 show Calls _ _ _ _ fun e w' => ∃ v, e = .returned (.tuple #[v, .int .i64 0, .bool true]) ∧ OwI w' w.heap.size v (distL la.l) ∧ Below w.heap.size w w'
 have hix := ix_rowA b off 1 c (by decide)
 obtain ⟨b1, off1, e1, h0⟩ := hr.cellAt 0 _ rfl
 injection e1 with e1
 injection e1 with e1 e2
 subst e1 e2
 rw [Nat.add_zero] at h0
 obtain ⟨aa, al, ac⟩ := la
 obtain ⟨q, hq⟩ : ∃ q, q = al.length := ⟨_, rfl⟩
 have h1 : w.cell? ⟨b, off, none⟩ = some (.slice aa q ac) := by rw [hq]; exact h0
 dsimp only at hL ⊢
 have Hd := hide (distinct_any aa q ac al w hok.1 hq (by rw [hq]; exact hL))
 clear h0 hr hok hL hq
 go_enter Tryz.func23, Tryz.ntmps23
 go_wp2_with fail
 refine Hd.out.mono ?_
 rintro e w1 ⟨v, rfl, ho, hb⟩
 have Ho := hide ho
 clear ho h1
 go_wp2
 go_ret3
 exact ⟨v, rfl, Ho.out, hb⟩
theorem ofItems_reverse (b off c : Nat) (la : Lst) (w : World) (hr : Rd w (some ⟨b, off, none⟩) ([la].map Lst.v)) (hok : OkA w la) (hL : la.l.length ≤ 1000000) :
  Calls Tryz.prog 23 #[.string ⟨#[114, 101, 118, 101, 114, 115, 101]⟩, .slice (some ⟨b, off, none⟩) 1 c] w fun e w' => ∃ v, e = .returned (.tuple #[v, .int .i64 (fReverse la.l).2, .bool true]) ∧ OwI w' w.heap.size v (fReverse la.l).1 ∧ Below w.heap.size w w' := by
 show Calls _ _ _ _ fun e w' => ∃ v, e = .returned (.tuple #[v, .int .i64 0, .bool true]) ∧ OwI w' w.heap.size v la.l.reverse ∧ Below w.heap.size w w'
 have hix := ix_rowA b off 1 c (by decide)
 obtain ⟨b1, off1, e1, h0⟩ := hr.cellAt 0 _ rfl
 injection e1 with e1
 injection e1 with e1 e2
 subst e1 e2
 rw [Nat.add_zero] at h0
 obtain ⟨aa, al, ac⟩ := la
 obtain ⟨q, hq⟩ : ∃ q, q = al.length := ⟨_, rfl⟩
 have h1 : w.cell? ⟨b, off, none⟩ = some (.slice aa q ac) := by rw [hq]; exact h0
 dsimp only at hL ⊢
 have Hd := hide (clone_any aa q ac al w hok.1 hq (by rw [hq]; exact hL))
 have HL := hide hL
 clear h0 hr hok hL hq
 go_enter Tryz.func23, Tryz.ntmps23
 go_wp2_with fail
 refine Hd.out.mono ?_
 rintro e w1 ⟨v, rfl, ho, hb⟩
 have Hrv := hide (reverse_any v w.heap.size al w1 ho HL.out)
 have hlt := fun b hb => (ow_lt ho b hb).1
 have Hlt := hide hlt
 clear ho h1 hlt
 go_wp2_with fail
 refine Hrv.out.mono ?_
 rintro e w2 ⟨rfl, ho2, hg2⟩
 have Ho := hide ho2
 have hb2 : Below w.heap.size w w2 := hb.grown hg2 hb.size Hlt.out
 clear ho2 hg2 hb
 go_wp2
 go_ret3
 exact ⟨v, rfl, Ho.out, hb2⟩
theorem ofItems_join1 (b off c : Nat) (la : Lst) (w : World) (he : Env w) (hr : Rd w (some ⟨b, off, none⟩) ([la].map Lst.v)) (hok : OkA w la) (hL : la.l.length ≤ 1000000) (hR : ∀ y ∈ la.l, R64 y.num) (hs : ∀ y ∈ la.l, y.text.size ≤ 100000) :
  Calls Tryz.prog 23 #[.string ⟨#[115, 116, 114, 105, 110, 103, 45, 106, 111, 105, 110]⟩, .slice (some ⟨b, off, none⟩) 1 c] w fun e w' => ∃ v, e = .returned (.tuple #[v, .int .i64 (joinV [la]).2, .bool true]) ∧ OwI w' w.heap.size v (joinV [la]).1 ∧ Below w.heap.size w w' := by
 show Calls _ _ _ _ fun e w' => ∃ v, e = .returned (.tuple #[v, .int .i64 (joinR ⟨#[]⟩ (txL la.l)).2, .bool true]) ∧ OwI w' w.heap.size v (joinR ⟨#[]⟩ (txL la.l)).1 ∧ Below w.heap.size w w'
 obtain ⟨i0, hi⟩ := info_parts (show (Tryz.prog.info? 9).map (fun i => (i.zero, i.size, i.bytes)) = some (some (.string ⟨#[]⟩), 1, 16) by kernel_rfl)
 have Hi := hide hi
 have hix := ix_rowA b off 1 c (by decide)
 obtain ⟨b1, off1, e1, h0⟩ := hr.cellAt 0 _ rfl
 injection e1 with e1
 injection e1 with e1 e2
 subst e1 e2
 rw [Nat.add_zero] at h0
 obtain ⟨aa, al, ac⟩ := la
 obtain ⟨q, hq⟩ : ∃ q, q = al.length := ⟨_, rfl⟩
 have h1 : w.cell? ⟨b, off, none⟩ = some (.slice aa q ac) := by rw [hq]; exact h0
 dsimp only at hL hR hs ⊢
 have hqL : q ≤ 1000000 := by rw [hq]; exact hL
 have Hq := hide hq
 have Ha := hide hok
 have He := hide he
 have HR := hide hR
 have Hs := hide hs
 have hB2 := Below.refl w.heap.size w
 clear h0 hr hok hL hq he hR hs hi
 go_enter Tryz.func23, Tryz.ntmps23
 go_wp2_with fail
 go_loopw [13, 88] (fun lv iv W => ∃ k : Nat, k ≤ q ∧ iv = .int .i64 k ∧ Hid (W.ownsRow w.heap.size 9 1 lv k ((txL (al.take k)).map Value.string)) ∧ Below w.heap.size w W) (fun _ iv _ => q - (intOf iv).toNat)
 case atStart => exact ⟨0, Nat.zero_le _, rfl, hide (ow_nil _ _ _ _), hB2⟩
 case round =>
  clear hB2
  obtain ⟨k, hk, rfl, Ho, hB⟩ := hrel
  by_cases hlt : k < q
  ·have hI : (k : Int) < (q : Int) := by omega
   obtain ⟨x, hx⟩ : ∃ x, al[k]? = some x := ⟨_, List.getElem?_eq_getElem (by have := Hq.out; omega)⟩
   obtain ⟨b1, off1, e1, c0, c1, c2, c3⟩ := (Ha.out.1.keep hB).at k x hx
   dsimp only at e1
   subst e1
   have hix2 := ix_item b1 off1 q ac k hlt
   have HxR := hide (HR.out x (List.mem_of_getElem? hx))
   have Htk : Hid (txL (al.take (k + 1)) = txL (al.take k) ++ [txt x]) := by show _ = _; rw [List.take_add_one, hx]; simp [txL]
   clear hx
   obtain ⟨xk, xa, xt, xd⟩ := x
   dsimp only at c0 c1 c2 c3
   obtain ⟨lav, lcv, hv⟩ := ow_forms Ho.out
   subst hv
   have hB3 := hB.alloc hB.size (.cells #[.int .u8 xk, .int .i64 xa, .string xt, .int .i64 xd] 36)
   have Ho3 := hide (ow_keep Ho.out ((Below.refl _ _).alloc (Nat.le_refl _) (.cells #[.int .u8 xk, .int .i64 xa, .string xt, .int .i64 xd] 36)))
   go_wp2_with fail
   refine (text_any xk xa xd xt _ (He.out.keep hB3) HxR.out).mono ?_
   rintro e w4 ⟨rfl, hb4⟩
   have hB4 := chain0 hB3 hb4
   have Ho4 := hide (ow_keep Ho3.out hb4)
   clear hb4 hB hB3 c0 c1 c2 c3 hix2 Ho Ho3
   generalize txt ⟨xk, xa, xt, xd⟩ = sx at *
   have hrd := Rd.new w4 9 [.string sx]
   have hk6 := (Below.refl w4.heap.size w4).alloc (Nat.le_refl _) (.cells #[.string sx] 9)
   have own6 := ow_keep Ho4.out hk6
   have be6 := chain0 hB4 hk6
   have Hrd := hide hrd
   have Own6 := hide own6
   clear hrd hk6 own6 Ho4 hB4
   go_wp2_with (at_builtin; refine wpList_appR rfl _ _ 50 rfl i0 _ 16 1 Tryz.underlying50 Hi.out.1 Hi.out.2.1 Hi.out.2.2.1 Hi.out.2.2.2 rfl (by decide) rfl rfl ?e1 Own6.out Hrd.out (m := 1) rfl ?e2 ?e3 ?e4 ?_)
   case e1 => intro u hu; simp at hu; subst hu; rfl
   case e2 => omega
   case e3 => omega
   case e4 => exact be6.size
   intro v3 W3 own3 hg3 hv3
   have own4 : W3.ownsRow w.heap.size 9 1 v3 (k + 1) ((txL (al.take (k + 1))).map Value.string) := by rw [Htk.out, List.map_append]; exact own3
   have hB3 : Below w.heap.size w W3 := be6.grown hg3 be6.size fun b hb => (ow_lt Own6.out b hb).1
   have Hown4 := hide own4
   clear own3 hg3 hv3 own4 Own6 Hrd be6
   go_wp2
   go_roundw
   case rel => exact ⟨k + 1, by omega, by simp, hide Hown4.out, hB3⟩
   case measure => simp [intOf]; omega
  ·have hI : ¬ (k : Int) < (q : Int) := by omega
   have hkq : k = q := by omega
   subst hkq
   have htk : al.take k = al := List.take_of_length_le (by have := Hq.out; omega)
   obtain ⟨lav, lcv, hv⟩ := ow_forms Ho.out
   subst hv
   have hfin := Ho.out
   rw [htk] at hfin
   have hkc : k ≤ lcv := by
    rcases hfin.2 with ⟨e1, e2⟩ | ⟨g, cap, cur, e1, _, _, e3, _⟩
    ·omega
    ·injection e1 with _ _ e1; omega
   have hpp : (lav = none ∧ lcv = 0) ∨ ∃ b off, lav = some ⟨b, off, none⟩ ∧ b < wr.heap.size := by
    rcases hfin.2 with ⟨e1, e2⟩ | ⟨g, cap, cur, e1, _, e4, _⟩
    ·injection e1 with e1 _ e3
     exact .inl ⟨e1, e3⟩
    ·injection e1 with e1
     exact .inr ⟨g, 0, e1, lt_of_heap e4⟩
   have Hj := hide (joined_any ⟨#[]⟩ lav k lcv (txL al) wr (ow_rd hfin) (by show _ = (List.map txt al).length; rw [List.length_map]; exact Hq.out) hkc (by omega) (fun x hx => by obtain ⟨y, hy, rfl⟩ := List.mem_map.1 hx; exact Nat.le_trans (txt_small y (HR.out y hy) (Hs.out y hy)) (by decide)) (by decide) hpp)
   have hbs := hB.size
   clear htk hfin hkc hpp Ho hk
   obtain ⟨jv, hjv⟩ : ∃ x, x = joinR ⟨#[]⟩ (txL al) := ⟨_, rfl⟩
   rw [← hjv] at Hj
   have Hjv := hide hjv
   clear hjv
   obtain ⟨j1, j2⟩ := jv
   dsimp only at Hj
   go_wp2_with fail
   refine Hj.out.mono ?_
   rintro e w5 ⟨v, rfl, ho, hb5⟩
   have Ho5 := hide (ho.mono hbs)
   have hB5 := chain0 hB hb5
   clear ho hb5 hB hbs
   go_wp2
   go_ret3
   exact ⟨v, by rw [← Hjv.out]; rfl, by rw [← Hjv.out]; exact Ho5.out, hB5⟩
theorem ofItems_join2 (b off c : Nat) (la lb : Lst) (w : World) (he : Env w) (hr : Rd w (some ⟨b, off, none⟩) ([la, lb].map Lst.v)) (hok : OkA w la) (hokb : OkA w lb) (hL : la.l.length ≤ 1000000) (hR : ∀ y ∈ la.l, R64 y.num) (hs : ∀ y ∈ la.l, y.text.size ≤ 100000) (hRb : ∀ y ∈ lb.l, R64 y.num) (hsb : ∀ y ∈ lb.l, y.text.size ≤ 100000) :
  Calls Tryz.prog 23 #[.string ⟨#[115, 116, 114, 105, 110, 103, 45, 106, 111, 105, 110]⟩, .slice (some ⟨b, off, none⟩) 2 c] w fun e w' => ∃ v, e = .returned (.tuple #[v, .int .i64 (joinV [la, lb]).2, .bool true]) ∧ OwI w' w.heap.size v (joinV [la, lb]).1 ∧ Below w.heap.size w w' := by
 obtain ⟨i0, hi⟩ := info_parts (show (Tryz.prog.info? 9).map (fun i => (i.zero, i.size, i.bytes)) = some (some (.string ⟨#[]⟩), 1, 16) by kernel_rfl)
 have Hi := hide hi
 have hix := ix_rowA b off 2 c (by decide)
 have hixb := ix_row b off 2 c 1 (by decide)
 obtain ⟨b1, off1, e1, h0⟩ := hr.cellAt 0 _ rfl
 injection e1 with e1
 injection e1 with e1 e2
 subst e1 e2
 rw [Nat.add_zero] at h0
 obtain ⟨b1, off1, e1, h0b⟩ := hr.cellAt 1 _ rfl
 injection e1 with e1
 injection e1 with e1 e2
 subst e1 e2
 obtain ⟨aa, al, ac⟩ := la
 obtain ⟨ba, bl, bc⟩ := lb
 obtain ⟨q, hq⟩ : ∃ q, q = al.length := ⟨_, rfl⟩
 have h1 : w.cell? ⟨b, off, none⟩ = some (.slice aa q ac) := by rw [hq]; exact h0
 obtain ⟨qb, hqb⟩ : ∃ q, q = bl.length := ⟨_, rfl⟩
 have h1b : w.cell? ⟨b, off + 1, none⟩ = some (.slice ba qb bc) := by rw [hqb]; exact h0b
 dsimp only at hL hR hs hRb hsb ⊢
 have hqL : q ≤ 1000000 := by rw [hq]; exact hL
 have Hq := hide hq
 have Hst := hide (string_any ba qb bc bl w he hokb hRb hqb)
 have Hss := hide (strV_small bl hRb hsb)
 have Ha := hide hok
 have He := hide he
 have HR := hide hR
 have Hs := hide hs
 have HJ : Hid (joinV [⟨aa, al, ac⟩, ⟨ba, bl, bc⟩] = if (strV bl).2 = 0 then joinR (strV bl).1 (txL al) else ([], (strV bl).2)) := by show _ = _; rfl
 rw [HJ.out]
 clear h0 h0b hr hok hokb hL hq hqb he hR hs hRb hsb hi HJ
 simp only [Int.natCast_one] at hixb
 generalize strV bl = sv at *
 obtain ⟨s1, s2⟩ := sv
 dsimp only at Hst Hss ⊢
 by_cases hz : s2 = 0
 ·subst hz
  rw [if_pos rfl]
  go_enter Tryz.func23, Tryz.ntmps23
  go_wp2_with fail
  refine Hst.out.mono ?_
  rintro e w1 ⟨rfl, hB2⟩
  clear h1 h1b
  go_wp2_with fail
  go_loopw [13, 88] (fun lv iv W => ∃ k : Nat, k ≤ q ∧ iv = .int .i64 k ∧ Hid (W.ownsRow w.heap.size 9 1 lv k ((txL (al.take k)).map Value.string)) ∧ Below w.heap.size w W) (fun _ iv _ => q - (intOf iv).toNat)
  case atStart => exact ⟨0, Nat.zero_le _, rfl, hide (ow_nil _ _ _ _), hB2⟩
  case round =>
   clear hB2
   obtain ⟨k, hk, rfl, Ho, hB⟩ := hrel
   by_cases hlt : k < q
   ·have hI : (k : Int) < (q : Int) := by omega
    obtain ⟨x, hx⟩ : ∃ x, al[k]? = some x := ⟨_, List.getElem?_eq_getElem (by have := Hq.out; omega)⟩
    obtain ⟨b1, off1, e1, c0, c1, c2, c3⟩ := (Ha.out.1.keep hB).at k x hx
    dsimp only at e1
    subst e1
    have hix2 := ix_item b1 off1 q ac k hlt
    have HxR := hide (HR.out x (List.mem_of_getElem? hx))
    have Htk : Hid (txL (al.take (k + 1)) = txL (al.take k) ++ [txt x]) := by show _ = _; rw [List.take_add_one, hx]; simp [txL]
    clear hx
    obtain ⟨xk, xa, xt, xd⟩ := x
    dsimp only at c0 c1 c2 c3
    obtain ⟨lav, lcv, hv⟩ := ow_forms Ho.out
    subst hv
    have hB3 := hB.alloc hB.size (.cells #[.int .u8 xk, .int .i64 xa, .string xt, .int .i64 xd] 36)
    have Ho3 := hide (ow_keep Ho.out ((Below.refl _ _).alloc (Nat.le_refl _) (.cells #[.int .u8 xk, .int .i64 xa, .string xt, .int .i64 xd] 36)))
    go_wp2_with fail
    refine (text_any xk xa xd xt _ (He.out.keep hB3) HxR.out).mono ?_
    rintro e w4 ⟨rfl, hb4⟩
    have hB4 := chain0 hB3 hb4
    have Ho4 := hide (ow_keep Ho3.out hb4)
    clear hb4 hB hB3 c0 c1 c2 c3 hix2 Ho Ho3
    generalize txt ⟨xk, xa, xt, xd⟩ = sx at *
    have hrd := Rd.new w4 9 [.string sx]
    have hk6 := (Below.refl w4.heap.size w4).alloc (Nat.le_refl _) (.cells #[.string sx] 9)
    have own6 := ow_keep Ho4.out hk6
    have be6 := chain0 hB4 hk6
    have Hrd := hide hrd
    have Own6 := hide own6
    clear hrd hk6 own6 Ho4 hB4
    go_wp2_with (at_builtin; refine wpList_appR rfl _ _ 50 rfl i0 _ 16 1 Tryz.underlying50 Hi.out.1 Hi.out.2.1 Hi.out.2.2.1 Hi.out.2.2.2 rfl (by decide) rfl rfl ?e1 Own6.out Hrd.out (m := 1) rfl ?e2 ?e3 ?e4 ?_)
    case e1 => intro u hu; simp at hu; subst hu; rfl
    case e2 => omega
    case e3 => omega
    case e4 => exact be6.size
    intro v3 W3 own3 hg3 hv3
    have own4 : W3.ownsRow w.heap.size 9 1 v3 (k + 1) ((txL (al.take (k + 1))).map Value.string) := by rw [Htk.out, List.map_append]; exact own3
    have hB3 : Below w.heap.size w W3 := be6.grown hg3 be6.size fun b hb => (ow_lt Own6.out b hb).1
    have Hown4 := hide own4
    clear own3 hg3 hv3 own4 Own6 Hrd be6
    go_wp2
    go_roundw
    case rel => exact ⟨k + 1, by omega, by simp, hide Hown4.out, hB3⟩
    case measure => simp [intOf]; omega
   ·have hI : ¬ (k : Int) < (q : Int) := by omega
    have hkq : k = q := by omega
    subst hkq
    have htk : al.take k = al := List.take_of_length_le (by have := Hq.out; omega)
    obtain ⟨lav, lcv, hv⟩ := ow_forms Ho.out
    subst hv
    have hfin := Ho.out
    rw [htk] at hfin
    have hkc : k ≤ lcv := by
     rcases hfin.2 with ⟨e1, e2⟩ | ⟨g, cap, cur, e1, _, _, e3, _⟩
     ·omega
     ·injection e1 with _ _ e1; omega
    have hpp : (lav = none ∧ lcv = 0) ∨ ∃ b off, lav = some ⟨b, off, none⟩ ∧ b < wr.heap.size := by
     rcases hfin.2 with ⟨e1, e2⟩ | ⟨g, cap, cur, e1, _, e4, _⟩
     ·injection e1 with e1 _ e3
      exact .inl ⟨e1, e3⟩
     ·injection e1 with e1
      exact .inr ⟨g, 0, e1, lt_of_heap e4⟩
    have Hj := hide (joined_any s1 lav k lcv (txL al) wr (ow_rd hfin) (by show _ = (List.map txt al).length; rw [List.length_map]; exact Hq.out) hkc (by omega) (fun x hx => by obtain ⟨y, hy, rfl⟩ := List.mem_map.1 hx; exact Nat.le_trans (txt_small y (HR.out y hy) (Hs.out y hy)) (by decide)) (Nat.le_trans Hss.out (by decide)) hpp)
    have hbs := hB.size
    clear htk hfin hkc hpp Ho hk
    obtain ⟨jv, hjv⟩ : ∃ x, x = joinR s1 (txL al) := ⟨_, rfl⟩
    rw [← hjv] at Hj
    have Hjv := hide hjv
    clear hjv
    obtain ⟨j1, j2⟩ := jv
    dsimp only at Hj
    go_wp2_with fail
    refine Hj.out.mono ?_
    rintro e w5 ⟨v, rfl, ho, hb5⟩
    have Ho5 := hide (ho.mono hbs)
    have hB5 := chain0 hB hb5
    clear ho hb5 hB hbs
    go_wp2
    go_ret3
    exact ⟨v, by rw [← Hjv.out]; rfl, by rw [← Hjv.out]; exact Ho5.out, hB5⟩
 ·have hz1 : (s2 != 0) = true := by simpa using hz
  rw [if_neg hz]
  clear hz
  go_enter Tryz.func23, Tryz.ntmps23
  go_wp2_with fail
  refine Hst.out.mono ?_
  rintro e w1 ⟨rfl, hb1⟩
  clear h1 h1b
  go_wp2
  go_ret3
  exact ⟨.slice none 0 0, rfl, OwI.nil _ _, hb1⟩
end Go.Proofs.YtaieiogmolaebaaGreatDoor
namespace Go.Proofs.YtaieiogmolaebaaGreatDoor
set_option maxRecDepth 100000
set_option maxHeartbeats 4000000
open Go.RowKit
theorem callO_distinct (p : Option Addr) (n c : Nat) (ls : List Lst) (m : Int) (w : World) (he : Env w) (hm : w.cell? ⟨3, 0, none⟩ = some (.int .i64 m)) (hc : Counts w) (hr : Rd w p (ls.map Lst.v)) (hok : OkAs w ls)
  (hL : ∀ x ∈ ls, x.l.length ≤ 1000000) (hn : n = ls.length) (hnm : n ≤ 1000000) :
  Calls Tryz.prog 7 #[.string ⟨#[100, 105, 115, 116, 105, 110, 99, 116, 45, 118, 97, 108, 117, 101, 115]⟩, .slice p n c] w (Res w (callO [100, 105, 115, 116, 105, 110, 99, 116, 45, 118, 97, 108, 117, 101, 115] fDistinct ls).1 (callO [100, 105, 115, 116, 105, 110, 99, 116, 45, 118, 97, 108, 117, 101, 115] fDistinct ls).2) := by
 have He := hide he
 have Hr := hide hr
 have Hok := hide hok
 have Hn := hide hn
 have HL := hide hL
 have Hrt := hide (right_any p n c ls w he.t8 hn (by omega) hr hok)
 have Hkn : Hid (∀ W, Below w.heap.size w W → Calls Tryz.prog 22 #[.string ⟨#[100, 105, 115, 116, 105, 110, 99, 116, 45, 118, 97, 108, 117, 101, 115]⟩, .int .i64 n] W fun e w' => e = .returned (.bool (knV [100, 105, 115, 116, 105, 110, 99, 116, 45, 118, 97, 108, 117, 101, 115] n)) ∧ Below W.heap.size W w') := fun W hW => known_any ⟨#[100, 105, 115, 116, 105, 110, 99, 116, 45, 118, 97, 108, 117, 101, 115]⟩ n m W (cell_keep hW hm) (hc.keep hW) (by decide)
 have hnl : n < 9223372036854775807 := by omega
 have Hall : Hid (callO [100, 105, 115, 116, 105, 110, 99, 116, 45, 118, 97, 108, 117, 101, 115] fDistinct ls = if rightL ls = true then (if knV [100, 105, 115, 116, 105, 110, 99, 116, 45, 118, 97, 108, 117, 101, 115] n = true then one1 fDistinct ls else ([], 241)) else ([], 2)) := by show _ = _; unfold callO; rw [hn]
 clear he hm hc hr hok hL hn hnm
 rcases Bool.eq_false_or_eq_true (rightL ls) with hq | hq
 rotate_left
 ·rw [hq] at Hrt
  have HA : Hid (callO [100, 105, 115, 116, 105, 110, 99, 116, 45, 118, 97, 108, 117, 101, 115] fDistinct ls = ([], 2)) := by show _ = _; rw [Hall.out, hq]; rfl
  clear hq Hall
  go_enter Tryz.func7, Tryz.ntmps7
  go_wp2_with fail
  refine Hrt.out.mono ?_
  rintro e w1 ⟨rfl, hb1⟩
  go_wp2
  go_ret2
  exact ⟨.slice none 0 0, by rw [HA.out]; rfl, by rw [HA.out]; exact OwI.nil _ _, hb1⟩
 rw [hq] at Hrt
 rcases Bool.eq_false_or_eq_true (knV [100, 105, 115, 116, 105, 110, 99, 116, 45, 118, 97, 108, 117, 101, 115] n) with hk | hk
 rotate_left
 ·rw [hk] at Hkn
  have HA : Hid (callO [100, 105, 115, 116, 105, 110, 99, 116, 45, 118, 97, 108, 117, 101, 115] fDistinct ls = ([], 241)) := by show _ = _; rw [Hall.out, hq, hk]; rfl
  clear hq hk Hall
  go_enter Tryz.func7, Tryz.ntmps7
  go_wp2_with fail
  refine Hrt.out.mono ?_
  rintro e w1 ⟨rfl, hb1⟩
  go_wp2_with fail
  refine (Hkn.out w1 hb1).mono ?_
  rintro e w2 ⟨rfl, hb2⟩
  have hB2 := chain0 hb1 hb2
  go_wp2
  go_ret2
  exact ⟨.slice none 0 0, by rw [HA.out]; rfl, by rw [HA.out]; exact OwI.nil _ _, hB2⟩
 have HE : Hid (callO [100, 105, 115, 116, 105, 110, 99, 116, 45, 118, 97, 108, 117, 101, 115] fDistinct ls = one1 fDistinct ls) := by show _ = _; rw [Hall.out, hq, hk, if_pos rfl, if_pos rfl]
 rw [hk] at Hkn
 have hn1 : ls.length = 1 := by
  rw [← Hn.out]
  unfold knV at hk
  simp [wK0, wK1] at hk
  omega
 clear hq hk Hall
 obtain ⟨la, rfl⟩ := len_1 hn1
 have hn2 : n = 1 := Hn.out
 subst hn2
 obtain ⟨b0, off0, rfl, hcz⟩ := Hr.out.cellAt 0 la.v rfl
 clear hcz hn1
 go_enter Tryz.func7, Tryz.ntmps7
 go_wp2_with fail
 refine Hrt.out.mono ?_
 rintro e w1 ⟨rfl, hb1⟩
 go_wp2_with fail
 refine (Hkn.out w1 hb1).mono ?_
 rintro e w2 ⟨rfl, hb2⟩
 have hB2 := chain0 hb1 hb2
 clear hb1 hb2 Hkn Hrt
 go_wp2_with fail
 refine (ofItems_distinct b0 off0 c la _ (Hr.out.keep hB2) ⟨(Hok.out la (by simp)).1.keep hB2, (Hok.out la (by simp)).2⟩ (HL.out la (by simp))).mono ?_
 rintro e w3 ⟨v, rfl, ho, hb3⟩
 have Ho := hide (ho.mono hB2.size)
 have hB3 := chain0 hB2 hb3
 clear ho hb3
 have HE2 : Hid (callO [100, 105, 115, 116, 105, 110, 99, 116, 45, 118, 97, 108, 117, 101, 115] fDistinct [la] = fDistinct la.l) := HE.out
 generalize fDistinct la.l = sv at *
 obtain ⟨s1, s2⟩ := sv
 go_wp2
 go_ret2
 exact ⟨v, by rw [HE2.out]; rfl, by rw [HE2.out]; exact Ho.out, hB3⟩
theorem callO_reverse (p : Option Addr) (n c : Nat) (ls : List Lst) (m : Int) (w : World) (he : Env w) (hm : w.cell? ⟨3, 0, none⟩ = some (.int .i64 m)) (hc : Counts w) (hr : Rd w p (ls.map Lst.v)) (hok : OkAs w ls)
  (hL : ∀ x ∈ ls, x.l.length ≤ 1000000) (hn : n = ls.length) (hnm : n ≤ 1000000) :
  Calls Tryz.prog 7 #[.string ⟨#[114, 101, 118, 101, 114, 115, 101]⟩, .slice p n c] w (Res w (callO [114, 101, 118, 101, 114, 115, 101] fReverse ls).1 (callO [114, 101, 118, 101, 114, 115, 101] fReverse ls).2) := by
 have He := hide he
 have Hr := hide hr
 have Hok := hide hok
 have Hn := hide hn
 have HL := hide hL
 have Hrt := hide (right_any p n c ls w he.t8 hn (by omega) hr hok)
 have Hkn : Hid (∀ W, Below w.heap.size w W → Calls Tryz.prog 22 #[.string ⟨#[114, 101, 118, 101, 114, 115, 101]⟩, .int .i64 n] W fun e w' => e = .returned (.bool (knV [114, 101, 118, 101, 114, 115, 101] n)) ∧ Below W.heap.size W w') := fun W hW => known_any ⟨#[114, 101, 118, 101, 114, 115, 101]⟩ n m W (cell_keep hW hm) (hc.keep hW) (by decide)
 have hnl : n < 9223372036854775807 := by omega
 have Hall : Hid (callO [114, 101, 118, 101, 114, 115, 101] fReverse ls = if rightL ls = true then (if knV [114, 101, 118, 101, 114, 115, 101] n = true then one1 fReverse ls else ([], 241)) else ([], 2)) := by show _ = _; unfold callO; rw [hn]
 clear he hm hc hr hok hL hn hnm
 rcases Bool.eq_false_or_eq_true (rightL ls) with hq | hq
 rotate_left
 ·rw [hq] at Hrt
  have HA : Hid (callO [114, 101, 118, 101, 114, 115, 101] fReverse ls = ([], 2)) := by show _ = _; rw [Hall.out, hq]; rfl
  clear hq Hall
  go_enter Tryz.func7, Tryz.ntmps7
  go_wp2_with fail
  refine Hrt.out.mono ?_
  rintro e w1 ⟨rfl, hb1⟩
  go_wp2
  go_ret2
  exact ⟨.slice none 0 0, by rw [HA.out]; rfl, by rw [HA.out]; exact OwI.nil _ _, hb1⟩
 rw [hq] at Hrt
 rcases Bool.eq_false_or_eq_true (knV [114, 101, 118, 101, 114, 115, 101] n) with hk | hk
 rotate_left
 ·rw [hk] at Hkn
  have HA : Hid (callO [114, 101, 118, 101, 114, 115, 101] fReverse ls = ([], 241)) := by show _ = _; rw [Hall.out, hq, hk]; rfl
  clear hq hk Hall
  go_enter Tryz.func7, Tryz.ntmps7
  go_wp2_with fail
  refine Hrt.out.mono ?_
  rintro e w1 ⟨rfl, hb1⟩
  go_wp2_with fail
  refine (Hkn.out w1 hb1).mono ?_
  rintro e w2 ⟨rfl, hb2⟩
  have hB2 := chain0 hb1 hb2
  go_wp2
  go_ret2
  exact ⟨.slice none 0 0, by rw [HA.out]; rfl, by rw [HA.out]; exact OwI.nil _ _, hB2⟩
 have HE : Hid (callO [114, 101, 118, 101, 114, 115, 101] fReverse ls = one1 fReverse ls) := by show _ = _; rw [Hall.out, hq, hk, if_pos rfl, if_pos rfl]
 rw [hk] at Hkn
 have hn1 : ls.length = 1 := by
  rw [← Hn.out]
  unfold knV at hk
  simp [wK0, wK1] at hk
  omega
 clear hq hk Hall
 obtain ⟨la, rfl⟩ := len_1 hn1
 have hn2 : n = 1 := Hn.out
 subst hn2
 obtain ⟨b0, off0, rfl, hcz⟩ := Hr.out.cellAt 0 la.v rfl
 clear hcz hn1
 go_enter Tryz.func7, Tryz.ntmps7
 go_wp2_with fail
 refine Hrt.out.mono ?_
 rintro e w1 ⟨rfl, hb1⟩
 go_wp2_with fail
 refine (Hkn.out w1 hb1).mono ?_
 rintro e w2 ⟨rfl, hb2⟩
 have hB2 := chain0 hb1 hb2
 clear hb1 hb2 Hkn Hrt
 go_wp2_with fail
 refine (ofItems_reverse b0 off0 c la _ (Hr.out.keep hB2) ⟨(Hok.out la (by simp)).1.keep hB2, (Hok.out la (by simp)).2⟩ (HL.out la (by simp))).mono ?_
 rintro e w3 ⟨v, rfl, ho, hb3⟩
 have Ho := hide (ho.mono hB2.size)
 have hB3 := chain0 hB2 hb3
 clear ho hb3
 have HE2 : Hid (callO [114, 101, 118, 101, 114, 115, 101] fReverse [la] = fReverse la.l) := HE.out
 generalize fReverse la.l = sv at *
 obtain ⟨s1, s2⟩ := sv
 go_wp2
 go_ret2
 exact ⟨v, by rw [HE2.out]; rfl, by rw [HE2.out]; exact Ho.out, hB3⟩
def callJ (ls : List Lst) : List It × Int := if rightL ls = true then (if knV [115, 116, 114, 105, 110, 103, 45, 106, 111, 105, 110] ls.length = true then joinV ls else ([], 241)) else ([], 2)
theorem len_12 {α : Type} {l : List α} (h : l.length = 1 ∨ l.length = 2) : (∃ a, l = [a]) ∨ ∃ a b, l = [a, b] := by
 match l, h with
 | [a], _ => exact .inl ⟨a, rfl⟩
 | [a, b], _ => exact .inr ⟨a, b, rfl⟩
theorem callJ_any (p : Option Addr) (n c : Nat) (ls : List Lst) (m : Int) (w : World) (he : Env w) (hm : w.cell? ⟨3, 0, none⟩ = some (.int .i64 m)) (hc : Counts w) (hr : Rd w p (ls.map Lst.v)) (hok : OkAs w ls)
  (hR : ∀ x ∈ ls, ∀ y ∈ x.l, R64 y.num) (hsz : ∀ x ∈ ls, ∀ y ∈ x.l, y.text.size ≤ 100000) (hL : ∀ x ∈ ls, x.l.length ≤ 1000000) (hn : n = ls.length) (hnm : n ≤ 1000000) :
  Calls Tryz.prog 7 #[.string ⟨#[115, 116, 114, 105, 110, 103, 45, 106, 111, 105, 110]⟩, .slice p n c] w (Res w (callJ ls).1 (callJ ls).2) := by
 obtain ⟨i0, hi⟩ := info_parts (show (Tryz.prog.info? 9).map (fun i => (i.zero, i.size, i.bytes)) = some (some (.string ⟨#[]⟩), 1, 16) by kernel_rfl)
 have Hi := hide hi
 have He := hide he
 have Hm := hide hm
 have Hc := hide hc
 have Hr := hide hr
 have Hok := hide hok
 have HR := hide hR
 have Hsz := hide hsz
 have Hn := hide hn
 have HL := hide hL
 have Hnm := hide hnm
 have Hrt := hide (right_any p n c ls w he.t8 hn (by omega) hr hok)
 have Hkn : Hid (∀ W, Below w.heap.size w W → Calls Tryz.prog 22 #[.string ⟨#[115, 116, 114, 105, 110, 103, 45, 106, 111, 105, 110]⟩, .int .i64 n] W fun e w' => e = .returned (.bool (knV [115, 116, 114, 105, 110, 103, 45, 106, 111, 105, 110] n)) ∧ Below W.heap.size W w') := fun W hW => known_any ⟨#[115, 116, 114, 105, 110, 103, 45, 106, 111, 105, 110]⟩ n m W (cell_keep hW hm) (hc.keep hW) (by decide)
 have hnl : n < 9223372036854775807 := by omega
 have Hall : Hid (callJ ls = if rightL ls = true then (if knV [115, 116, 114, 105, 110, 103, 45, 106, 111, 105, 110] n = true then joinV ls else ([], 241)) else ([], 2)) := by show _ = _; unfold callJ; rw [hn]
 clear he hm hc hr hok hR hsz hL hn hnm hi
 rcases Bool.eq_false_or_eq_true (rightL ls) with hq | hq
 rotate_left
 ·rw [hq] at Hrt
  have HA : Hid (callJ ls = ([], 2)) := by show _ = _; rw [Hall.out, hq]; rfl
  clear hq Hall
  go_enter Tryz.func7, Tryz.ntmps7
  go_wp2_with fail
  refine Hrt.out.mono ?_
  rintro e w1 ⟨rfl, hb1⟩
  go_wp2
  go_ret2
  exact ⟨.slice none 0 0, by rw [HA.out]; rfl, by rw [HA.out]; exact OwI.nil _ _, hb1⟩
 rw [hq] at Hrt
 rcases Bool.eq_false_or_eq_true (knV [115, 116, 114, 105, 110, 103, 45, 106, 111, 105, 110] n) with hk | hk
 rotate_left
 ·rw [hk] at Hkn
  have HA : Hid (callJ ls = ([], 241)) := by show _ = _; rw [Hall.out, hq, hk]; rfl
  clear hq hk Hall
  go_enter Tryz.func7, Tryz.ntmps7
  go_wp2_with fail
  refine Hrt.out.mono ?_
  rintro e w1 ⟨rfl, hb1⟩
  go_wp2_with fail
  refine (Hkn.out w1 hb1).mono ?_
  rintro e w2 ⟨rfl, hb2⟩
  have hB2 := chain0 hb1 hb2
  go_wp2
  go_ret2
  exact ⟨.slice none 0 0, by rw [HA.out]; rfl, by rw [HA.out]; exact OwI.nil _ _, hB2⟩
 have HE : Hid (callJ ls = joinV ls) := by show _ = _; rw [Hall.out, hq, hk, if_pos rfl, if_pos rfl]
 rw [hk] at Hkn
 have hn23 : ls.length = 1 ∨ ls.length = 2 := by
  rw [← Hn.out]
  unfold knV at hk
  simp [wK0, wK1, wK2, wK3] at hk
  omega
 clear hq hk Hall
 rcases len_12 hn23 with ⟨la, rfl⟩ | ⟨la, lb, rfl⟩
 ·have hn2 : n = 1 := Hn.out
  subst hn2
  obtain ⟨b0, off0, rfl, hcz⟩ := Hr.out.cellAt 0 la.v rfl
  clear hcz hn23
  go_enter Tryz.func7, Tryz.ntmps7
  go_wp2_with fail
  refine Hrt.out.mono ?_
  rintro e w1 ⟨rfl, hb1⟩
  go_wp2_with fail
  refine (Hkn.out w1 hb1).mono ?_
  rintro e w2 ⟨rfl, hb2⟩
  have hB2 := chain0 hb1 hb2
  clear hb1 hb2 Hkn Hrt
  go_wp2_with fail
  refine (ofItems_join1 b0 off0 c la _ (He.out.keep hB2) (Hr.out.keep hB2) ⟨(Hok.out la (by simp)).1.keep hB2, (Hok.out la (by simp)).2⟩ (HL.out la (by simp)) (HR.out la (by simp)) (Hsz.out la (by simp))).mono ?_
  rintro e w3 ⟨v, rfl, ho, hb3⟩
  have Ho := hide (ho.mono hB2.size)
  have hB3 := chain0 hB2 hb3
  clear ho hb3
  generalize joinV _ = sv at *
  obtain ⟨s1, s2⟩ := sv
  go_wp2
  go_ret2
  exact ⟨v, by rw [HE.out]; rfl, by rw [HE.out]; exact Ho.out, hB3⟩
 ·have hn2 : n = 2 := Hn.out
  subst hn2
  obtain ⟨b0, off0, rfl, hcz⟩ := Hr.out.cellAt 0 la.v rfl
  clear hcz hn23
  go_enter Tryz.func7, Tryz.ntmps7
  go_wp2_with fail
  refine Hrt.out.mono ?_
  rintro e w1 ⟨rfl, hb1⟩
  go_wp2_with fail
  refine (Hkn.out w1 hb1).mono ?_
  rintro e w2 ⟨rfl, hb2⟩
  have hB2 := chain0 hb1 hb2
  clear hb1 hb2 Hkn Hrt
  go_wp2_with fail
  refine (ofItems_join2 b0 off0 c la lb _ (He.out.keep hB2) (Hr.out.keep hB2) ⟨(Hok.out la (by simp)).1.keep hB2, (Hok.out la (by simp)).2⟩ ⟨(Hok.out lb (by simp)).1.keep hB2, (Hok.out lb (by simp)).2⟩ (HL.out la (by simp)) (HR.out la (by simp)) (Hsz.out la (by simp)) (HR.out lb (by simp)) (Hsz.out lb (by simp))).mono ?_
  rintro e w3 ⟨v, rfl, ho, hb3⟩
  have Ho := hide (ho.mono hB2.size)
  have hB3 := chain0 hB2 hb3
  clear ho hb3
  generalize joinV _ = sv at *
  obtain ⟨s1, s2⟩ := sv
  go_wp2
  go_ret2
  exact ⟨v, by rw [HE.out]; rfl, by rw [HE.out]; exact Ho.out, hB3⟩
end Go.Proofs.YtaieiogmolaebaaGreatDoor
