/- value.Call at functions of texts: upper-case, lower-case. -/
import Derived.Test.YtaieiogmolaebaaGreatDoorC17
import Derived.Test.YtaieiogmolaebaaGreatDoorKe1
import Derived.Shelf.Abstract
namespace Go.Proofs.YtaieiogmolaebaaGreatDoor
set_option maxRecDepth 100000
set_option maxHeartbeats 4000000
open Go.RowKit
def shF (a d : Int) (x : Int) : Int := if a ≤ x ∧ x ≤ a + 25 then x + d else x
def upF : Int → Int := shF 97 (-32)
def loF : Int → Int := shF 65 32
def mapB (f : Int → Int) (t : ByteArray) : ByteArray := ⟨(Lib.mapD f t.data.toList).toArray⟩
def fUpper : List ByteArray → List It × Int
 | t :: _ => joinR ⟨#[]⟩ [mapB upF t]
 | [] => ([], 0)
def fLower : List ByteArray → List It × Int
 | t :: _ => joinR ⟨#[]⟩ [mapB loF t]
 | [] => ([], 0)
theorem encR_len (r : Int) : (Lib.encodeRune r).length ≤ 4 := by unfold Lib.encodeRune; rw [List.length_map]; exact (Lib.encodeRuneZ_length r).2
theorem mapGo_len (f : Int → Int) : ∀ (n : Nat) (l : List UInt8), (Lib.mapGoD f n l).length ≤ 4 * n
 | 0, l => by simp [Lib.mapGoD]
 | n + 1, l => by
  unfold Lib.mapGoD
  split
  ·simp
  ·rw [List.length_append]
   have h1 := mapGo_len f n (l.drop (Lib.decodeL l).2)
   have h2 : (if 0 ≤ f (Lib.decodeL l).1 then Lib.encodeRune (f (Lib.decodeL l).1) else []).length ≤ 4 := by
    split
    ·exact encR_len _
    ·simp
   omega
theorem mapB_size (f : Int → Int) (t : ByteArray) : (mapB f t).size ≤ 4 * t.size := by
 show (Lib.mapD f t.data.toList).toArray.size ≤ _
 rw [List.size_toArray]
 have h := mapGo_len f t.data.toList.length t.data.toList
 have e : t.data.toList.length = t.size := Array.length_toList
 unfold Lib.mapD
 omega
theorem shF_in {a d : Int} {x : Nat} (h : a ≤ (x : Int)) (h2 : (x : Int) ≤ a + 25) : shF a d x = x + d := by unfold shF; rw [if_pos ⟨h, h2⟩]
theorem shF_out {a d : Int} {x : Nat} (h : ¬ (a ≤ (x : Int) ∧ (x : Int) ≤ a + 25)) : shF a d x = x := by unfold shF; rw [if_neg h]
theorem upper_clo (A B : Nat) (x : Nat) (hx : x ≤ 1114111) (W : World) (cA : W.cell? ⟨A, 0, none⟩ = some (.int .i32 97)) (cB : W.cell? ⟨B, 0, none⟩ = some (.int .i32 (-32))) :
  FnGives Tryz.prog 70 #[.pointer (some ⟨A, 0, none⟩), .pointer (some ⟨B, 0, none⟩)] #[.int .i32 (x : Int)] (.int .i32 (upF x)) W := by
 show Calls Tryz.prog 70 #[.int .i32 (x : Int), .pointer (some ⟨A, 0, none⟩), .pointer (some ⟨B, 0, none⟩)] W _
 by_cases h1 : (97 : Int) ≤ (x : Int)
 ·by_cases h2 : (x : Int) ≤ 122
  ·have HF : Hid (upF x = x + (-32)) := shF_in h1 (by omega)
   go_enter Tryz.func70, Tryz.ntmps70
   go_wp2
   go_ret
   exact ⟨by rw [HF.out]; rfl, 0, rfl⟩
  ·have HF : Hid (upF x = x) := shF_out (by omega)
   have h2d : decide ((x : Int) ≤ 122) = false := decide_eq_false h2
   have h2n : ¬ x ≤ 122 := by omega
   go_enter Tryz.func70, Tryz.ntmps70
   go_wp2
   go_ret
   exact ⟨by rw [HF.out]; rfl, 0, rfl⟩
 ·have HF : Hid (upF x = x) := shF_out (by omega)
  have h1d : decide ((97 : Int) ≤ (x : Int)) = false := decide_eq_false h1
  have h1n : ¬ 97 ≤ x := by omega
  go_enter Tryz.func70, Tryz.ntmps70
  go_wp2
  go_ret
  exact ⟨by rw [HF.out]; rfl, 0, rfl⟩
theorem upper_R : ∀ x : Nat, x ≤ 1114111 → 0 ≤ upF x ∧ upF x ≤ 2147483647 := by
 intro x hx
 unfold upF shF
 split <;> omega
theorem upper_any (s : ByteArray) (w : World) (ht : Tabs8 w) (hs : s.size < 35184372088832) : Calls Tryz.prog 33 #[.string s, .int .i32 97, .int .i32 (-32)] w fun e w' => e = .returned (.string (mapB upF s)) ∧ Below w.heap.size w w' := by
 have hb2 : Below w.heap.size w ((w.alloc (.cells #[.int .i32 97] 21)).alloc (.cells #[.int .i32 (-32)] 21)) := ((Below.refl _ _).alloc (Nat.le_refl _) _).alloc (by simp) _
 have k1 : Blk ((w.alloc (.cells #[.int .i32 97] 21)).alloc (.cells #[.int .i32 (-32)] 21)) w.heap.size 21 #[.int .i32 97] := (Blk.new w _ _).alloc _
 have k2 : Blk ((w.alloc (.cells #[.int .i32 97] 21)).alloc (.cells #[.int .i32 (-32)] 21)) (w.heap.size + 1) 21 #[.int .i32 (-32)] := by
  have := Blk.new (w.alloc (.cells #[.int .i32 97] 21)) 21 #[.int .i32 (-32)]
  simpa using this
 have K1 := hide k1
 have K2 := hide k2
 have Ht := hide ht
 have Hs := hide hs
 clear k1 k2 ht hs
 go_enter Tryz.func33, Tryz.ntmps33
 go_wp2_with fail
 refine (Tryz.strings_Map_runes 70 #[.pointer (some ⟨w.heap.size, 0, none⟩), .pointer (some ⟨w.heap.size + 1, 0, none⟩)] (enters_of Tryz.func70 (by kernel_rfl) rfl) upF s _ Hs.out ?hf upper_R (Ht.out.keep hb2)).mono ?_
 case hf => exact fun W x hx hb => upper_clo _ _ x hx W ((K1.out.keep hb).cell 0) ((K2.out.keep hb).cell 0)
 rintro e w3 ⟨rfl, hb3⟩
 have hB3 : Below w.heap.size w w3 := chain0 hb2 hb3
 have he : (⟨(Lib.mapD upF s.data.toList).toArray⟩ : ByteArray) = mapB upF s := rfl
 obtain ⟨mb, hmb⟩ : ∃ mb, mapB upF s = mb := ⟨_, rfl⟩
 rw [he, hmb]
 have HM := hide hmb
 clear he hmb
 go_wp2
 go_ret
 exact ⟨by rw [HM.out]; rfl, hB3⟩
theorem lower_clo (A B : Nat) (x : Nat) (hx : x ≤ 1114111) (W : World) (cA : W.cell? ⟨A, 0, none⟩ = some (.int .i32 65)) (cB : W.cell? ⟨B, 0, none⟩ = some (.int .i32 (32))) :
  FnGives Tryz.prog 70 #[.pointer (some ⟨A, 0, none⟩), .pointer (some ⟨B, 0, none⟩)] #[.int .i32 (x : Int)] (.int .i32 (loF x)) W := by
 show Calls Tryz.prog 70 #[.int .i32 (x : Int), .pointer (some ⟨A, 0, none⟩), .pointer (some ⟨B, 0, none⟩)] W _
 by_cases h1 : (65 : Int) ≤ (x : Int)
 ·by_cases h2 : (x : Int) ≤ 90
  ·have HF : Hid (loF x = x + (32)) := shF_in h1 (by omega)
   go_enter Tryz.func70, Tryz.ntmps70
   go_wp2
   go_ret
   exact ⟨by rw [HF.out]; rfl, 0, rfl⟩
  ·have HF : Hid (loF x = x) := shF_out (by omega)
   have h2d : decide ((x : Int) ≤ 90) = false := decide_eq_false h2
   have h2n : ¬ x ≤ 90 := by omega
   go_enter Tryz.func70, Tryz.ntmps70
   go_wp2
   go_ret
   exact ⟨by rw [HF.out]; rfl, 0, rfl⟩
 ·have HF : Hid (loF x = x) := shF_out (by omega)
  have h1d : decide ((65 : Int) ≤ (x : Int)) = false := decide_eq_false h1
  have h1n : ¬ 65 ≤ x := by omega
  go_enter Tryz.func70, Tryz.ntmps70
  go_wp2
  go_ret
  exact ⟨by rw [HF.out]; rfl, 0, rfl⟩
theorem lower_R : ∀ x : Nat, x ≤ 1114111 → 0 ≤ loF x ∧ loF x ≤ 2147483647 := by
 intro x hx
 unfold loF shF
 split <;> omega
theorem lower_any (s : ByteArray) (w : World) (ht : Tabs8 w) (hs : s.size < 35184372088832) : Calls Tryz.prog 33 #[.string s, .int .i32 65, .int .i32 (32)] w fun e w' => e = .returned (.string (mapB loF s)) ∧ Below w.heap.size w w' := by
 have hb2 : Below w.heap.size w ((w.alloc (.cells #[.int .i32 65] 21)).alloc (.cells #[.int .i32 (32)] 21)) := ((Below.refl _ _).alloc (Nat.le_refl _) _).alloc (by simp) _
 have k1 : Blk ((w.alloc (.cells #[.int .i32 65] 21)).alloc (.cells #[.int .i32 (32)] 21)) w.heap.size 21 #[.int .i32 65] := (Blk.new w _ _).alloc _
 have k2 : Blk ((w.alloc (.cells #[.int .i32 65] 21)).alloc (.cells #[.int .i32 (32)] 21)) (w.heap.size + 1) 21 #[.int .i32 (32)] := by
  have := Blk.new (w.alloc (.cells #[.int .i32 65] 21)) 21 #[.int .i32 (32)]
  simpa using this
 have K1 := hide k1
 have K2 := hide k2
 have Ht := hide ht
 have Hs := hide hs
 clear k1 k2 ht hs
 go_enter Tryz.func33, Tryz.ntmps33
 go_wp2_with fail
 refine (Tryz.strings_Map_runes 70 #[.pointer (some ⟨w.heap.size, 0, none⟩), .pointer (some ⟨w.heap.size + 1, 0, none⟩)] (enters_of Tryz.func70 (by kernel_rfl) rfl) loF s _ Hs.out ?hf lower_R (Ht.out.keep hb2)).mono ?_
 case hf => exact fun W x hx hb => lower_clo _ _ x hx W ((K1.out.keep hb).cell 0) ((K2.out.keep hb).cell 0)
 rintro e w3 ⟨rfl, hb3⟩
 have hB3 : Below w.heap.size w w3 := chain0 hb2 hb3
 have he : (⟨(Lib.mapD loF s.data.toList).toArray⟩ : ByteArray) = mapB loF s := rfl
 obtain ⟨mb, hmb⟩ : ∃ mb, mapB loF s = mb := ⟨_, rfl⟩
 rw [he, hmb]
 have HM := hide hmb
 clear he hmb
 go_wp2
 go_ret
 exact ⟨by rw [HM.out]; rfl, hB3⟩
theorem callT_upper_case (p : Option Addr) (n c : Nat) (ls : List Lst) (m : Int) (w : World) (he : Env w) (hm : w.cell? ⟨3, 0, none⟩ = some (.int .i64 m)) (hc : Counts w) (hr : Rd w p (ls.map Lst.v)) (hok : OkAs w ls)
  (hR : ∀ x ∈ ls, ∀ y ∈ x.l, R64 y.num) (hsz : ∀ x ∈ ls, ∀ y ∈ x.l, y.text.size ≤ 100000) (hn : n = ls.length) (hnm : n ≤ 1000000) :
  Calls Tryz.prog 7 #[.string ⟨#[117, 112, 112, 101, 114, 45, 99, 97, 115, 101]⟩, .slice p n c] w (Res w (callT [117, 112, 112, 101, 114, 45, 99, 97, 115, 101] fUpper ls).1 (callT [117, 112, 112, 101, 114, 45, 99, 97, 115, 101] fUpper ls).2) := by
 obtain ⟨i0, hi⟩ := info_parts (show (Tryz.prog.info? 9).map (fun i => (i.zero, i.size, i.bytes)) = some (some (.string ⟨#[]⟩), 1, 16) by kernel_rfl)
 have Hi := hide hi
 have He := hide he
 have Hm := hide hm
 have Hc := hide hc
 have Hr := hide hr
 have Hok := hide hok
 have HR := hide hR
 have Hsz := hide hsz
 have Hn := hide hn
 have Hnm := hide hnm
 have Hrt := hide (right_any p n c ls w he.t8 hn (by omega) hr hok)
 have Hkn : Hid (∀ W, Below w.heap.size w W → Calls Tryz.prog 22 #[.string ⟨#[117, 112, 112, 101, 114, 45, 99, 97, 115, 101]⟩, .int .i64 n] W fun e w' => e = .returned (.bool (knV [117, 112, 112, 101, 114, 45, 99, 97, 115, 101] n)) ∧ Below W.heap.size W w') := fun W hW => known_any ⟨#[117, 112, 112, 101, 114, 45, 99, 97, 115, 101]⟩ n m W (cell_keep hW hm) (hc.keep hW) (by decide)
 have hnl : n < 9223372036854775807 := by omega
 have Hall : Hid (callT [117, 112, 112, 101, 114, 45, 99, 97, 115, 101] fUpper ls = if rightL ls = true then (if knV [117, 112, 112, 101, 114, 45, 99, 97, 115, 101] n = true then (if errS ls = 0 then fUpper (txs ls) else ([], errS ls)) else ([], 241)) else ([], 2)) := by show _ = _; unfold callT; rw [hn]
 clear he hm hc hr hok hR hsz hn hnm hi
 rcases Bool.eq_false_or_eq_true (rightL ls) with hq | hq
 rotate_left
 ·rw [hq] at Hrt
  have HA : Hid (callT [117, 112, 112, 101, 114, 45, 99, 97, 115, 101] fUpper ls = ([], 2)) := by show _ = _; rw [Hall.out, hq]; rfl
  clear hq Hall
  go_enter Tryz.func7, Tryz.ntmps7
  go_wp2_with fail
  refine Hrt.out.mono ?_
  rintro e w1 ⟨rfl, hb1⟩
  go_wp2
  go_ret2
  exact ⟨.slice none 0 0, by rw [HA.out]; rfl, by rw [HA.out]; exact OwI.nil _ _, hb1⟩
 rw [hq] at Hrt
 rcases Bool.eq_false_or_eq_true (knV [117, 112, 112, 101, 114, 45, 99, 97, 115, 101] n) with hk | hk
 rotate_left
 ·rw [hk] at Hkn
  have HA : Hid (callT [117, 112, 112, 101, 114, 45, 99, 97, 115, 101] fUpper ls = ([], 241)) := by show _ = _; rw [Hall.out, hq, hk]; rfl
  clear hq hk Hall
  go_enter Tryz.func7, Tryz.ntmps7
  go_wp2_with fail
  refine Hrt.out.mono ?_
  rintro e w1 ⟨rfl, hb1⟩
  go_wp2_with fail
  refine (Hkn.out w1 hb1).mono ?_
  rintro e w2 ⟨rfl, hb2⟩
  have hB2 := chain0 hb1 hb2
  go_wp2
  go_ret2
  exact ⟨.slice none 0 0, by rw [HA.out]; rfl, by rw [HA.out]; exact OwI.nil _ _, hB2⟩
 have Hk := hide hk
 have HE : Hid (errS ls = 0 → callT [117, 112, 112, 101, 114, 45, 99, 97, 115, 101] fUpper ls = fUpper (txs ls)) := by show _ → _; intro h; rw [Hall.out, hq, hk, if_pos rfl, if_pos rfl, if_pos h]
 have HE2 : Hid (errS ls ≠ 0 → callT [117, 112, 112, 101, 114, 45, 99, 97, 115, 101] fUpper ls = ([], errS ls)) := by show _ → _; intro h; rw [Hall.out, hq, hk, if_pos rfl, if_pos rfl, if_neg h]
 rw [hk] at Hkn
 have hn0 : 0 < n := by
  rcases Nat.eq_zero_or_pos n with h | h
  ·subst h; rw [show knV [117, 112, 112, 101, 114, 45, 99, 97, 115, 101] 0 = false by decide +kernel] at hk; cases hk
  ·exact h
 clear hq hk Hall
 obtain ⟨y0, hy0⟩ : ∃ y, ls[0]? = some y := ⟨_, List.getElem?_eq_getElem (by have := Hn.out; omega)⟩
 obtain ⟨b0, off0, rfl, hcz⟩ := Hr.out.cellAt 0 y0.v (by simp [hy0])
 clear hcz
 have Hy0 := hide hy0
 have hix0 := ix_rowA b0 off0 n c hn0
 clear hy0
 go_enter Tryz.func7, Tryz.ntmps7
 go_wp2_with fail
 refine Hrt.out.mono ?_
 rintro e w1 ⟨rfl, hb1⟩
 go_wp2_with fail
 refine (Hkn.out w1 hb1).mono ?_
 rintro e w2 ⟨rfl, hb2⟩
 have hB2 := chain0 hb1 hb2
 clear hb1 hb2 Hkn Hrt
 obtain ⟨b1, off1, e1, hcz⟩ := (Hr.out.keep hB2).cellAt 0 y0.v (by simp [Hy0.out])
 injection e1 with e1
 injection e1 with e1 e2
 subst e1 e2
 rw [Nat.add_zero] at hcz
 obtain ⟨ya, yl, yc⟩ := y0
 have hc0 : w2.cell? ⟨b0, off0, none⟩ = some (.slice ya yl.length yc) := hcz
 clear hcz
 go_wp2_with fail
 refine (ofItems_no_upper_case b0 off0 n c _ _ hn0 hc0 ⟨_, _, _, rfl⟩).mono ?_
 rintro e wx ⟨rfl, rfl⟩
 go_wp2_with fail
 refine (ofNumbers_no_upper_case _ _).mono ?_
 rintro e wx ⟨rfl, rfl⟩
 clear hc0 hix0
 go_wp2_with fail
 go_loopw [12, 51] (fun lv iv W => ∃ k : Nat, k ≤ n ∧ iv = .int .i64 k ∧ Hid (∀ x ∈ ls.take k, (strV x.l).2 = 0) ∧ Hid (W.ownsRow w.heap.size 9 1 lv k ((txs (ls.take k)).map Value.string)) ∧ Below w.heap.size w W) (fun _ iv _ => n - (intOf iv).toNat)
 case atStart => exact ⟨0, Nat.zero_le _, rfl, hide (by simp), hide (ow_nil _ _ _ _), hB2⟩
 case round =>
  clear hB2
  obtain ⟨k, hk, rfl, Hz, Ho, hB⟩ := hrel
  by_cases hlt : k < n
  ·have hI : (k : Int) < (n : Int) := by omega
   obtain ⟨x, hx⟩ : ∃ x, ls[k]? = some x := ⟨_, List.getElem?_eq_getElem (by have := Hn.out; omega)⟩
   obtain ⟨b1, off1, e1, hcz⟩ := (Hr.out.keep hB).cellAt k x.v (by simp [hx])
   injection e1 with e1
   injection e1 with e1 e2
   subst e1 e2
   have hix := ix_row b0 off0 n c k hlt
   have Hx := hide hx
   have Hokx := hide (Hok.out x (List.mem_of_getElem? hx))
   have HRx := hide (HR.out x (List.mem_of_getElem? hx))
   clear hx
   obtain ⟨xa, xl, xc⟩ := x
   obtain ⟨q, hq⟩ : ∃ q, q = xl.length := ⟨_, rfl⟩
   have hcx : wr.cell? ⟨b0, off0 + k, none⟩ = some (.slice xa q xc) := by rw [hq]; exact hcz
   clear hcz
   have Hq := hide hq
   clear hq
   go_wp2_with fail
   refine (string_any xa q xc xl _ (He.out.keep hB) ⟨Hokx.out.1.keep hB, Hokx.out.2⟩ HRx.out Hq.out).mono ?_
   rintro e w4 ⟨rfl, hb4⟩
   have hB4 := chain0 hB hb4
   have Ho4 := hide (ow_keep Ho.out hb4)
   clear hb4 hB hcx hix Ho
   by_cases hz0 : (strV xl).2 = 0
   ·have Hz2 : Hid (∀ x ∈ ls.take (k + 1), (strV x.l).2 = 0) := by
     show ∀ x ∈ _, _
     intro x hx
     rw [List.take_add_one, Hx.out] at hx
     rcases List.mem_append.1 hx with hx | hx
     ·exact Hz.out x hx
     ·simp at hx; subst hx; exact hz0
    have Htk : Hid (txs (ls.take (k + 1)) = txs (ls.take k) ++ [(strV xl).1]) := by show _ = _; rw [List.take_add_one, Hx.out]; simp [txs]
    rw [hz0]
    generalize (strV xl).1 = sx at *
    have hrd := Rd.new w4 9 [.string sx]
    have hk6 := (Below.refl w4.heap.size w4).alloc (Nat.le_refl _) (.cells #[.string sx] 9)
    have own6 := ow_keep Ho4.out hk6
    have be6 := chain0 hB4 hk6
    have Hrd := hide hrd
    have Own6 := hide own6
    clear hrd hk6 own6 hz0 Hz Ho4 hB4
    go_wp2_with (at_builtin; refine wpList_appR rfl _ _ 50 rfl i0 _ 16 1 Tryz.underlying50 Hi.out.1 Hi.out.2.1 Hi.out.2.2.1 Hi.out.2.2.2 rfl (by decide) rfl rfl ?e1 Own6.out Hrd.out (m := 1) rfl ?e2 ?e3 ?e4 ?_)
    case e1 => intro u hu; simp at hu; subst hu; rfl
    case e2 => have := Hnm.out; omega
    case e3 => have := Hnm.out; omega
    case e4 => exact be6.size
    intro v' W7 hown7 hg7 _
    have Hown7 : Hid (W7.ownsRow w.heap.size 9 1 v' (k + 1) ((txs (ls.take (k + 1))).map Value.string)) := by
     show World.ownsRow _ _ _ _ _ _ _
     rw [Htk.out, List.map_append]; exact hown7
    have hB7 := be6.grown hg7 be6.size (fun k hk => (ow_lt Own6.out k hk).1)
    clear hown7 hg7 Own6 be6 Hrd
    go_wp2
    go_roundw
    case rel => exact ⟨k + 1, by omega, by simp, Hz2, Hown7, hB7⟩
    case measure => simp [intOf]; omega
   ·have hz1 : ((strV xl).2 != 0) = true := by simpa using hz0
    have HEr : Hid (errS ls = (strV xl).2) := errS_at ls k _ Hz.out Hx.out hz0
    have HA : Hid (callT [117, 112, 112, 101, 114, 45, 99, 97, 115, 101] fUpper ls = ([], (strV xl).2)) := by show _ = _; rw [HE2.out (by rw [HEr.out]; exact hz0), HEr.out]
    generalize (strV xl).2 = er at *
    generalize (strV xl).1 = sx at *
    clear hz0 HEr Hz Ho4
    go_wp2
    go_ret2
    exact ⟨.slice none 0 0, by rw [HA.out]; rfl, by rw [HA.out]; exact OwI.nil _ _, hB4⟩
  ·have hI : ¬ (k : Int) < (n : Int) := by omega
   have hkn : k = n := by omega
   have htk : ls.take n = ls := List.take_of_length_le (by have := Hn.out; omega)
   have Hz2 := Hz.out
   have Ho2 := Ho.out
   rw [hkn, htk] at Hz2 Ho2
   have HA := hide (HE.out (errS_no ls Hz2))
   have Hown := hide Ho2
   subst hkn
   have Htl : Hid ((txs ls).length = k) := by show _ = _; rw [Hn.out]; simp [txs]
   have Hts : Hid (∀ t ∈ txs ls, t.size ≤ 100000) := by
    show ∀ t ∈ txs ls, _
    intro t ht
    obtain ⟨x, hx, rfl⟩ := List.mem_map.1 ht
    exact strV_small x.l (HR.out x hx) (Hsz.out x hx)
   clear Hz Ho Hz2 Ho2 htk HE HE2
   obtain ⟨g, cap, rfl, hg, hglt, hcap⟩ := ow_form Hown.out (by omega)
   generalize txs ls = tl at *
   have hk1 : k = 1 := by
    have h := Hk.out
    unfold knV at h
    simp [wK0, wK1] at h
    omega
   subst hk1
   obtain ⟨t0, rfl⟩ := List.length_eq_one_iff.1 Htl.out
   have hs0 := Hts.out t0 (by simp)
   have d0 : wr.cell? ⟨g, 0, none⟩ = some (.string t0) := ow_cell Hown.out 0 _ rfl
   have hx0 := ix_str g 0 1 cap 0 (by decide)
   clear Hts Hk Htl hg hcap
   have Hs0 := hide hs0
   clear hs0
   go_wp2_with fail
   refine (upper_any t0 _ (He.out.keep hB).t8 (by have := Hs0.out; omega)).mono ?_
   rintro e w8 ⟨rfl, hb8⟩
   have hB8 := chain0 hB hb8
   clear hb8 hB
   have hB := hB8
   clear hB8
   have Hmb := hide (mapB_size upF t0)
   have hfe : Hid (fUpper [t0] = joinR ⟨#[]⟩ [mapB upF t0]) := by show _ = _; rfl
   generalize mapB upF t0 = mb at *
   go_wp2_with fail
   refine (joined_any ⟨#[]⟩ (some ⟨w8.heap.size, 0, none⟩) 1 1 [mb] _ (Rd.new w8 9 [.string mb]) rfl (by decide) (by decide) ?z1 (by decide) (.inr ⟨_, _, rfl, by simp⟩)).mono ?_
   case z1 => intro x hx; simp at hx; subst hx; have := Hs0.out; have := Hmb.out; omega
   rintro e w9 ⟨v9, rfl, ho9, hb9⟩
   have Ho9 := hide (ho9.mono (by first | exact hB.size | exact Nat.le_trans hB.size (by simp)))
   have hB9 : Below w.heap.size w w9 := by first | exact chain1 hB hb9 | exact chain0 hB hb9
   have Hsl := ow_forms Ho9.out
   clear hb9 ho9
   have HA2 : Hid (callT [117, 112, 112, 101, 114, 45, 99, 97, 115, 101] fUpper ls = joinR ⟨#[]⟩ [mb]) := by show _ = _; rw [HA.out]; exact hfe.out
   clear HA
   have HA := HA2
   clear HA2
   generalize joinR ⟨#[]⟩ [mb] = jr at *
   obtain ⟨r1, r2⟩ := jr
   go_wp2
   go_ret2
   exact ⟨v9, by rw [HA.out]; rfl, by rw [HA.out]; exact Ho9.out, hB9⟩
theorem callT_lower_case (p : Option Addr) (n c : Nat) (ls : List Lst) (m : Int) (w : World) (he : Env w) (hm : w.cell? ⟨3, 0, none⟩ = some (.int .i64 m)) (hc : Counts w) (hr : Rd w p (ls.map Lst.v)) (hok : OkAs w ls)
  (hR : ∀ x ∈ ls, ∀ y ∈ x.l, R64 y.num) (hsz : ∀ x ∈ ls, ∀ y ∈ x.l, y.text.size ≤ 100000) (hn : n = ls.length) (hnm : n ≤ 1000000) :
  Calls Tryz.prog 7 #[.string ⟨#[108, 111, 119, 101, 114, 45, 99, 97, 115, 101]⟩, .slice p n c] w (Res w (callT [108, 111, 119, 101, 114, 45, 99, 97, 115, 101] fLower ls).1 (callT [108, 111, 119, 101, 114, 45, 99, 97, 115, 101] fLower ls).2) := by
 obtain ⟨i0, hi⟩ := info_parts (show (Tryz.prog.info? 9).map (fun i => (i.zero, i.size, i.bytes)) = some (some (.string ⟨#[]⟩), 1, 16) by kernel_rfl)
 have Hi := hide hi
 have He := hide he
 have Hm := hide hm
 have Hc := hide hc
 have Hr := hide hr
 have Hok := hide hok
 have HR := hide hR
 have Hsz := hide hsz
 have Hn := hide hn
 have Hnm := hide hnm
 have Hrt := hide (right_any p n c ls w he.t8 hn (by omega) hr hok)
 have Hkn : Hid (∀ W, Below w.heap.size w W → Calls Tryz.prog 22 #[.string ⟨#[108, 111, 119, 101, 114, 45, 99, 97, 115, 101]⟩, .int .i64 n] W fun e w' => e = .returned (.bool (knV [108, 111, 119, 101, 114, 45, 99, 97, 115, 101] n)) ∧ Below W.heap.size W w') := fun W hW => known_any ⟨#[108, 111, 119, 101, 114, 45, 99, 97, 115, 101]⟩ n m W (cell_keep hW hm) (hc.keep hW) (by decide)
 have hnl : n < 9223372036854775807 := by omega
 have Hall : Hid (callT [108, 111, 119, 101, 114, 45, 99, 97, 115, 101] fLower ls = if rightL ls = true then (if knV [108, 111, 119, 101, 114, 45, 99, 97, 115, 101] n = true then (if errS ls = 0 then fLower (txs ls) else ([], errS ls)) else ([], 241)) else ([], 2)) := by show _ = _; unfold callT; rw [hn]
 clear he hm hc hr hok hR hsz hn hnm hi
 rcases Bool.eq_false_or_eq_true (rightL ls) with hq | hq
 rotate_left
 ·rw [hq] at Hrt
  have HA : Hid (callT [108, 111, 119, 101, 114, 45, 99, 97, 115, 101] fLower ls = ([], 2)) := by show _ = _; rw [Hall.out, hq]; rfl
  clear hq Hall
  go_enter Tryz.func7, Tryz.ntmps7
  go_wp2_with fail
  refine Hrt.out.mono ?_
  rintro e w1 ⟨rfl, hb1⟩
  go_wp2
  go_ret2
  exact ⟨.slice none 0 0, by rw [HA.out]; rfl, by rw [HA.out]; exact OwI.nil _ _, hb1⟩
 rw [hq] at Hrt
 rcases Bool.eq_false_or_eq_true (knV [108, 111, 119, 101, 114, 45, 99, 97, 115, 101] n) with hk | hk
 rotate_left
 ·rw [hk] at Hkn
  have HA : Hid (callT [108, 111, 119, 101, 114, 45, 99, 97, 115, 101] fLower ls = ([], 241)) := by show _ = _; rw [Hall.out, hq, hk]; rfl
  clear hq hk Hall
  go_enter Tryz.func7, Tryz.ntmps7
  go_wp2_with fail
  refine Hrt.out.mono ?_
  rintro e w1 ⟨rfl, hb1⟩
  go_wp2_with fail
  refine (Hkn.out w1 hb1).mono ?_
  rintro e w2 ⟨rfl, hb2⟩
  have hB2 := chain0 hb1 hb2
  go_wp2
  go_ret2
  exact ⟨.slice none 0 0, by rw [HA.out]; rfl, by rw [HA.out]; exact OwI.nil _ _, hB2⟩
 have Hk := hide hk
 have HE : Hid (errS ls = 0 → callT [108, 111, 119, 101, 114, 45, 99, 97, 115, 101] fLower ls = fLower (txs ls)) := by show _ → _; intro h; rw [Hall.out, hq, hk, if_pos rfl, if_pos rfl, if_pos h]
 have HE2 : Hid (errS ls ≠ 0 → callT [108, 111, 119, 101, 114, 45, 99, 97, 115, 101] fLower ls = ([], errS ls)) := by show _ → _; intro h; rw [Hall.out, hq, hk, if_pos rfl, if_pos rfl, if_neg h]
 rw [hk] at Hkn
 have hn0 : 0 < n := by
  rcases Nat.eq_zero_or_pos n with h | h
  ·subst h; rw [show knV [108, 111, 119, 101, 114, 45, 99, 97, 115, 101] 0 = false by decide +kernel] at hk; cases hk
  ·exact h
 clear hq hk Hall
 obtain ⟨y0, hy0⟩ : ∃ y, ls[0]? = some y := ⟨_, List.getElem?_eq_getElem (by have := Hn.out; omega)⟩
 obtain ⟨b0, off0, rfl, hcz⟩ := Hr.out.cellAt 0 y0.v (by simp [hy0])
 clear hcz
 have Hy0 := hide hy0
 have hix0 := ix_rowA b0 off0 n c hn0
 clear hy0
 go_enter Tryz.func7, Tryz.ntmps7
 go_wp2_with fail
 refine Hrt.out.mono ?_
 rintro e w1 ⟨rfl, hb1⟩
 go_wp2_with fail
 refine (Hkn.out w1 hb1).mono ?_
 rintro e w2 ⟨rfl, hb2⟩
 have hB2 := chain0 hb1 hb2
 clear hb1 hb2 Hkn Hrt
 obtain ⟨b1, off1, e1, hcz⟩ := (Hr.out.keep hB2).cellAt 0 y0.v (by simp [Hy0.out])
 injection e1 with e1
 injection e1 with e1 e2
 subst e1 e2
 rw [Nat.add_zero] at hcz
 obtain ⟨ya, yl, yc⟩ := y0
 have hc0 : w2.cell? ⟨b0, off0, none⟩ = some (.slice ya yl.length yc) := hcz
 clear hcz
 go_wp2_with fail
 refine (ofItems_no_lower_case b0 off0 n c _ _ hn0 hc0 ⟨_, _, _, rfl⟩).mono ?_
 rintro e wx ⟨rfl, rfl⟩
 go_wp2_with fail
 refine (ofNumbers_no_lower_case _ _).mono ?_
 rintro e wx ⟨rfl, rfl⟩
 clear hc0 hix0
 go_wp2_with fail
 go_loopw [12, 51] (fun lv iv W => ∃ k : Nat, k ≤ n ∧ iv = .int .i64 k ∧ Hid (∀ x ∈ ls.take k, (strV x.l).2 = 0) ∧ Hid (W.ownsRow w.heap.size 9 1 lv k ((txs (ls.take k)).map Value.string)) ∧ Below w.heap.size w W) (fun _ iv _ => n - (intOf iv).toNat)
 case atStart => exact ⟨0, Nat.zero_le _, rfl, hide (by simp), hide (ow_nil _ _ _ _), hB2⟩
 case round =>
  clear hB2
  obtain ⟨k, hk, rfl, Hz, Ho, hB⟩ := hrel
  by_cases hlt : k < n
  ·have hI : (k : Int) < (n : Int) := by omega
   obtain ⟨x, hx⟩ : ∃ x, ls[k]? = some x := ⟨_, List.getElem?_eq_getElem (by have := Hn.out; omega)⟩
   obtain ⟨b1, off1, e1, hcz⟩ := (Hr.out.keep hB).cellAt k x.v (by simp [hx])
   injection e1 with e1
   injection e1 with e1 e2
   subst e1 e2
   have hix := ix_row b0 off0 n c k hlt
   have Hx := hide hx
   have Hokx := hide (Hok.out x (List.mem_of_getElem? hx))
   have HRx := hide (HR.out x (List.mem_of_getElem? hx))
   clear hx
   obtain ⟨xa, xl, xc⟩ := x
   obtain ⟨q, hq⟩ : ∃ q, q = xl.length := ⟨_, rfl⟩
   have hcx : wr.cell? ⟨b0, off0 + k, none⟩ = some (.slice xa q xc) := by rw [hq]; exact hcz
   clear hcz
   have Hq := hide hq
   clear hq
   go_wp2_with fail
   refine (string_any xa q xc xl _ (He.out.keep hB) ⟨Hokx.out.1.keep hB, Hokx.out.2⟩ HRx.out Hq.out).mono ?_
   rintro e w4 ⟨rfl, hb4⟩
   have hB4 := chain0 hB hb4
   have Ho4 := hide (ow_keep Ho.out hb4)
   clear hb4 hB hcx hix Ho
   by_cases hz0 : (strV xl).2 = 0
   ·have Hz2 : Hid (∀ x ∈ ls.take (k + 1), (strV x.l).2 = 0) := by
     show ∀ x ∈ _, _
     intro x hx
     rw [List.take_add_one, Hx.out] at hx
     rcases List.mem_append.1 hx with hx | hx
     ·exact Hz.out x hx
     ·simp at hx; subst hx; exact hz0
    have Htk : Hid (txs (ls.take (k + 1)) = txs (ls.take k) ++ [(strV xl).1]) := by show _ = _; rw [List.take_add_one, Hx.out]; simp [txs]
    rw [hz0]
    generalize (strV xl).1 = sx at *
    have hrd := Rd.new w4 9 [.string sx]
    have hk6 := (Below.refl w4.heap.size w4).alloc (Nat.le_refl _) (.cells #[.string sx] 9)
    have own6 := ow_keep Ho4.out hk6
    have be6 := chain0 hB4 hk6
    have Hrd := hide hrd
    have Own6 := hide own6
    clear hrd hk6 own6 hz0 Hz Ho4 hB4
    go_wp2_with (at_builtin; refine wpList_appR rfl _ _ 50 rfl i0 _ 16 1 Tryz.underlying50 Hi.out.1 Hi.out.2.1 Hi.out.2.2.1 Hi.out.2.2.2 rfl (by decide) rfl rfl ?e1 Own6.out Hrd.out (m := 1) rfl ?e2 ?e3 ?e4 ?_)
    case e1 => intro u hu; simp at hu; subst hu; rfl
    case e2 => have := Hnm.out; omega
    case e3 => have := Hnm.out; omega
    case e4 => exact be6.size
    intro v' W7 hown7 hg7 _
    have Hown7 : Hid (W7.ownsRow w.heap.size 9 1 v' (k + 1) ((txs (ls.take (k + 1))).map Value.string)) := by
     show World.ownsRow _ _ _ _ _ _ _
     rw [Htk.out, List.map_append]; exact hown7
    have hB7 := be6.grown hg7 be6.size (fun k hk => (ow_lt Own6.out k hk).1)
    clear hown7 hg7 Own6 be6 Hrd
    go_wp2
    go_roundw
    case rel => exact ⟨k + 1, by omega, by simp, Hz2, Hown7, hB7⟩
    case measure => simp [intOf]; omega
   ·have hz1 : ((strV xl).2 != 0) = true := by simpa using hz0
    have HEr : Hid (errS ls = (strV xl).2) := errS_at ls k _ Hz.out Hx.out hz0
    have HA : Hid (callT [108, 111, 119, 101, 114, 45, 99, 97, 115, 101] fLower ls = ([], (strV xl).2)) := by show _ = _; rw [HE2.out (by rw [HEr.out]; exact hz0), HEr.out]
    generalize (strV xl).2 = er at *
    generalize (strV xl).1 = sx at *
    clear hz0 HEr Hz Ho4
    go_wp2
    go_ret2
    exact ⟨.slice none 0 0, by rw [HA.out]; rfl, by rw [HA.out]; exact OwI.nil _ _, hB4⟩
  ·have hI : ¬ (k : Int) < (n : Int) := by omega
   have hkn : k = n := by omega
   have htk : ls.take n = ls := List.take_of_length_le (by have := Hn.out; omega)
   have Hz2 := Hz.out
   have Ho2 := Ho.out
   rw [hkn, htk] at Hz2 Ho2
   have HA := hide (HE.out (errS_no ls Hz2))
   have Hown := hide Ho2
   subst hkn
   have Htl : Hid ((txs ls).length = k) := by show _ = _; rw [Hn.out]; simp [txs]
   have Hts : Hid (∀ t ∈ txs ls, t.size ≤ 100000) := by
    show ∀ t ∈ txs ls, _
    intro t ht
    obtain ⟨x, hx, rfl⟩ := List.mem_map.1 ht
    exact strV_small x.l (HR.out x hx) (Hsz.out x hx)
   clear Hz Ho Hz2 Ho2 htk HE HE2
   obtain ⟨g, cap, rfl, hg, hglt, hcap⟩ := ow_form Hown.out (by omega)
   generalize txs ls = tl at *
   have hk1 : k = 1 := by
    have h := Hk.out
    unfold knV at h
    simp [wK0, wK1] at h
    omega
   subst hk1
   obtain ⟨t0, rfl⟩ := List.length_eq_one_iff.1 Htl.out
   have hs0 := Hts.out t0 (by simp)
   have d0 : wr.cell? ⟨g, 0, none⟩ = some (.string t0) := ow_cell Hown.out 0 _ rfl
   have hx0 := ix_str g 0 1 cap 0 (by decide)
   clear Hts Hk Htl hg hcap
   have Hs0 := hide hs0
   clear hs0
   go_wp2_with fail
   refine (lower_any t0 _ (He.out.keep hB).t8 (by have := Hs0.out; omega)).mono ?_
   rintro e w8 ⟨rfl, hb8⟩
   have hB8 := chain0 hB hb8
   clear hb8 hB
   have hB := hB8
   clear hB8
   have Hmb := hide (mapB_size loF t0)
   have hfe : Hid (fLower [t0] = joinR ⟨#[]⟩ [mapB loF t0]) := by show _ = _; rfl
   generalize mapB loF t0 = mb at *
   go_wp2_with fail
   refine (joined_any ⟨#[]⟩ (some ⟨w8.heap.size, 0, none⟩) 1 1 [mb] _ (Rd.new w8 9 [.string mb]) rfl (by decide) (by decide) ?z1 (by decide) (.inr ⟨_, _, rfl, by simp⟩)).mono ?_
   case z1 => intro x hx; simp at hx; subst hx; have := Hs0.out; have := Hmb.out; omega
   rintro e w9 ⟨v9, rfl, ho9, hb9⟩
   have Ho9 := hide (ho9.mono (by first | exact hB.size | exact Nat.le_trans hB.size (by simp)))
   have hB9 : Below w.heap.size w w9 := by first | exact chain1 hB hb9 | exact chain0 hB hb9
   have Hsl := ow_forms Ho9.out
   clear hb9 ho9
   have HA2 : Hid (callT [108, 111, 119, 101, 114, 45, 99, 97, 115, 101] fLower ls = joinR ⟨#[]⟩ [mb]) := by show _ = _; rw [HA.out]; exact hfe.out
   clear HA
   have HA := HA2
   clear HA2
   generalize joinR ⟨#[]⟩ [mb] = jr at *
   obtain ⟨r1, r2⟩ := jr
   go_wp2
   go_ret2
   exact ⟨v9, by rw [HA.out]; rfl, by rw [HA.out]; exact Ho9.out, hB9⟩
end Go.Proofs.YtaieiogmolaebaaGreatDoor
