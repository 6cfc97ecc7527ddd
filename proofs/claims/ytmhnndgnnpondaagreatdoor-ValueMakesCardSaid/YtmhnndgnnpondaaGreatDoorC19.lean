/- Plain law: key.Whole is what is told by hand. The reference: an item's number (Hq1 without its text). The reference: Arith, Minus at any rows of items. Arith, Minus: program and reference answer the same, at any sign. -/
import Derived.Test.YtmhnndgnnpondaaGreatDoorC14
import Derived.Test.YtmhnndgnnpondaaGreatDoorC17
import Derived.Test.YtmhnndgnnpondaaGreatDoorHp
import Derived.Test.YtmhnndgnnpondaaGreatDoorC15
namespace Go.Proofs.YtmhnndgnnpondaaGreatDoor
open Go.RowKit
theorem bl_ext {x y : ByteArray} : x.toList = y.toList ↔ x.data.toList = y.data.toList := by
 rw [ByteArray.toList_eq, ByteArray.toList_eq]
theorem wh_eq (s : ByteArray) : rfO s.data.toList = if whB s = true then some (whN s) else none := by
 by_cases h : whB s = true
 ·rw [if_pos h]
  unfold whB at h
  unfold whN
  split at h
  ·rename_i v hv
   have h2 : (⟨(Lib.itoa v).toArray⟩ : ByteArray).toList = s.toList := of_decide_eq_true h
   rw [if_pos h2]
   have h3 := bl_ext.1 h2
   simp only at h3
   have hR := parse_R hv
   unfold R64 at hR
   rw [← h3]
   exact rfO_itoa hR.1 (by have := hR.2; omega)
  ·cases h
 ·rw [if_neg h]
  cases hr : rfO s.data.toList with
  | none => rfl
  | some v =>
   exfalso
   obtain ⟨h1, h2⟩ := parse_of_rfO hr
   apply h
   unfold whB
   rw [h1]
   simp only
   apply decide_eq_true
   rw [bl_ext]
   simpa using h2
end Go.Proofs.YtmhnndgnnpondaaGreatDoor
namespace Go.Proofs.YtmhnndgnnpondaaGreatDoor
open Go.RowKit
theorem rf_wh (s : ByteArray) : rfN s = whN s ∧ rfB s = whB s := by
 unfold rfN rfB
 rw [wh_eq]
 rcases Bool.eq_false_or_eq_true (whB s) with h | h
 ·rw [if_pos h, h]; exact ⟨rfl, rfl⟩
 ·rw [if_neg (by rw [h]; decide), h, whN_no h]; exact ⟨rfl, rfl⟩
theorem rwhole_any (s : ByteArray) (w : World) (hs : s.size ≤ 140737488355328) : Calls Tryz.prog 83 #[.string s] w fun e w' => e = .returned (.tuple #[.int .i64 (whN s), .bool (whB s)]) ∧ w = w' := by
 rw [← (rf_wh s).1, ← (rf_wh s).2]; exact rwholef_any s w hs
theorem whB_nil : whB ⟨#[]⟩ = false := by decide +kernel
set_option maxRecDepth 100000 in
set_option maxHeartbeats 1000000 in
theorem rnumber_any (k : Nat) (n d : Int) (s : ByteArray) (w : World) (hok : k = 4 → s = ⟨#[]⟩) (hs : s.size ≤ 140737488355328) :
  Calls Tryz.prog 52 #[.agg #[.int .u8 k, .int .i64 n, .string s, .int .i64 d]] w fun e w' => e = .returned (.tuple #[.int .i64 (nV ⟨k, n, s, d⟩), .int .i64 (nE ⟨k, n, s, d⟩)]) ∧ Below w.heap.size w w' := by
 have hz := (Below.refl w.heap.size w).alloc (Nat.le_refl _) (.cells #[.int .u8 k, .int .i64 n, .string s, .int .i64 d] 31)
 by_cases hk : k = 2
 ·subst hk
  have HN : Hid (nV ⟨2, n, s, d⟩ = n) := by show _ = _; rfl
  have HE : Hid (nE ⟨2, n, s, d⟩ = 0) := by show _ = _; rfl
  clear hok
  go_enter Tryz.func52, Tryz.ntmps52
  go_wp2
  go_ret2
  exact ⟨by rw [HN.out, HE.out]; rfl, hz⟩
 ·have hk1 : ((k : Int) == 2) = false := by simpa using (show (k : Int) ≠ 2 by omega)
  have HN : Hid (nV ⟨k, n, s, d⟩ = whN s) := by show _ = _; unfold nV; exact if_neg hk
  have HE : Hid (nE ⟨k, n, s, d⟩ = if whB s = true then 0 else 250) := by show _ = _; unfold nE; exact if_neg hk
  by_cases h4 : k = 4
  ·subst h4
   have hse := hok rfl
   subst hse
   have HN2 : Hid (nV ⟨4, n, ⟨#[]⟩, d⟩ = 0) := by show _ = _; rw [HN.out, whN_no whB_nil]
   have HE2 : Hid (nE ⟨4, n, ⟨#[]⟩, d⟩ = 250) := by show _ = _; rw [HE.out, whB_nil]; rfl
   clear hk hk1 HN HE hok hs
   go_enter Tryz.func52, Tryz.ntmps52
   go_wp2
   go_ret2
   exact ⟨by rw [HN2.out, HE2.out]; rfl, hz⟩
  ·have h4i : ((k : Int) == 4) = false := by simpa using (show (k : Int) ≠ 4 by omega)
   clear hk h4 hok
   rcases Bool.eq_false_or_eq_true (whB s) with hb | hb
   ·have HW := hide (rwhole_any s (w.alloc (.cells #[.int .u8 k, .int .i64 n, .string s, .int .i64 d] 31)) hs)
    rw [hb] at HE HW
    clear hb
    go_enter Tryz.func52, Tryz.ntmps52
    go_wp2_with fail
    refine HW.out.mono ?_
    rintro e w1 ⟨rfl, rfl⟩
    go_wp2
    go_ret2
    exact ⟨by rw [HN.out, HE.out]; rfl, hz⟩
   ·have hN := hide (whN_no hb)
    have HW := hide (rwhole_any s (w.alloc (.cells #[.int .u8 k, .int .i64 n, .string s, .int .i64 d] 31)) hs)
    rw [hb] at HE HW
    clear hb
    go_enter Tryz.func52, Tryz.ntmps52
    go_wp2_with fail
    refine HW.out.mono ?_
    rintro e w1 ⟨rfl, rfl⟩
    go_wp2
    go_ret2
    exact ⟨by rw [HN.out, HE.out, hN.out]; rfl, hz⟩
end Go.Proofs.YtmhnndgnnpondaaGreatDoor
namespace Go.Proofs.YtmhnndgnnpondaaGreatDoor
set_option maxRecDepth 100000
set_option maxHeartbeats 8000000
open Go.RowKit
theorem rwhole_own (n : Int) (w : World) : Calls Tryz.prog 54 #[.int .i64 n] w fun e w' => ∃ v, e = .returned v ∧ OwI w' w.heap.size v [⟨2, n, ⟨#[]⟩, 0⟩] ∧ Below w.heap.size w w' := by
 have hk := (Below.refl w.heap.size w).alloc (Nat.le_refl _) (.cells #[.int .u8 2, .int .i64 n, .string ⟨#[]⟩, .int .i64 0] 31)
 have hr := OwI.one w w.heap.size (Nat.le_refl _) ⟨2, n, ⟨#[]⟩, 0⟩
 go_enter Tryz.func54, Tryz.ntmps54
 go_wp2
 go_ret
 exact ⟨_, rfl, hr, hk⟩
def IsOp (s : ByteArray) : Prop := s = ⟨#[43]⟩ ∨ s = ⟨#[45]⟩ ∨ s = ⟨#[42]⟩ ∨ s = ⟨#[100, 105, 118]⟩ ∨ s = ⟨#[109, 111, 100]⟩
def RF (s : ByteArray) (f : Int → Int → Int × Int) : Prop := ∀ x y, R64 x → R64 y → ∃ v, RDone s x y v (f x y).2 ∧ ((f x y).2 = 0 → v = (f x y).1)
variable {f : Int → Int → Int × Int}
theorem okI_text {x : It} (h : okI x = true) : x.kind = 4 → x.text = ⟨#[]⟩ := by
 intro h4
 unfold okI at h
 rw [h4] at h
 simp at h
 exact toList_nil (show x.text.toList = [] ∧ 0 = x.node by simpa using h.1.2).1
theorem rarith_any (s : ByteArray) (hop : IsOp s) (hm : RF s f) (p q : Option Addr) (n m c d : Nat) (A B : List It) (w : World) (ha : OkA w ⟨p, A, c⟩) (hb : OkA w ⟨q, B, d⟩) (hRa : ∀ y ∈ A, R64 y.num) (hRb : ∀ y ∈ B, R64 y.num) (hn : n = A.length) (hm2 : m = B.length) :
  Calls Tryz.prog 12 #[.string s, .slice p n c, .slice q m d] w fun e w' => ∃ v, e = .returned (.tuple #[v, .int .i64 (arV f A B).2]) ∧ OwI w' w.heap.size v (arV f A B).1 ∧ Below w.heap.size w w' := by
 have HrA := hide (rrights_any p n c A w ha hn)
 have HrB := hide (fun (w' : World) (hk : Below w.heap.size w w') => rrights_any q m d B w' ⟨hb.1.keep hk, hb.2⟩ hm2)
 have Ha := hide ha
 have Hb := hide hb
 have Hm := hide hm
 have HRa := hide hRa
 have HRb := hide hRb
 have Hn := hide hn
 have Hm2 := hide hm2
 have hnl : n < 9223372036854775807 := by rw [hn]; exact ha.2.2
 have hml : m < 9223372036854775807 := by rw [hm2]; exact hb.2.2
 clear ha hb hm hRa hRb hn hm2
 rcases Bool.eq_false_or_eq_true (A.all okI) with hqa | hqa
 ·rw [hqa] at HrA
  rcases Bool.eq_false_or_eq_true (B.all okI) with hqb | hqb
  ·rw [hqb] at HrB
   have HQ : Hid ((A.all okI && B.all okI) = true) := by show _ = _; rw [hqa, hqb]; rfl
   have HQA := hide hqa
   have HQB := hide hqb
   clear hqa hqb
   by_cases hn0 : n = 0
   ·have HV : Hid (arV f A B = ([], 0)) := arV_nil HQ.out (.inl (by rw [← Hn.out]; exact hn0))
    subst hn0
    rcases hop with rfl | rfl | rfl | rfl | rfl
    all_goals
     go_enter Tryz.func12, Tryz.ntmps12
     go_wp2_with fail
     refine HrA.out.mono ?_
     rintro e w1 ⟨rfl, hb1⟩
     have hrB := HrB.out w1 hb1
     clear HrA HrB
     go_wp2_with fail
     refine hrB.mono ?_
     rintro e w2 ⟨rfl, hb2⟩
     have hB2 := chain0 hb1 hb2
     clear hrB hb2 hb1
     go_wp2
     go_ret2
     exact ⟨_, by rw [HV.out]; rfl, by rw [HV.out]; exact OwI.nil _ _, hB2⟩
   ·have n0 : ((n : Int) == 0) = false := by simp; omega
    by_cases hm0 : m = 0
    ·have HV : Hid (arV f A B = ([], 0)) := arV_nil HQ.out (.inr (by rw [← Hm2.out]; exact hm0))
     subst hm0
     rcases hop with rfl | rfl | rfl | rfl | rfl
     all_goals
      go_enter Tryz.func12, Tryz.ntmps12
      go_wp2_with fail
      refine HrA.out.mono ?_
      rintro e w1 ⟨rfl, hb1⟩
      have hrB := HrB.out w1 hb1
      clear HrA HrB
      go_wp2_with fail
      refine hrB.mono ?_
      rintro e w2 ⟨rfl, hb2⟩
      have hB2 := chain0 hb1 hb2
      clear hrB hb2 hb1
      go_wp2
      go_ret2
      exact ⟨_, by rw [HV.out]; rfl, by rw [HV.out]; exact OwI.nil _ _, hB2⟩
    ·have m0 : ((m : Int) == 0) = false := by simp; omega
     by_cases hn1 : 1 < n
     ·have HV : Hid (arV f A B = ([], 253)) := arV_many HQ.out (by rw [← Hn.out]; exact hn0) (by rw [← Hm2.out]; exact hm0) (.inl (by rw [← Hn.out]; exact hn1))
      have n1 : (1 : Int) < (n : Int) := by omega
      rcases hop with rfl | rfl | rfl | rfl | rfl
      all_goals
       go_enter Tryz.func12, Tryz.ntmps12
       go_wp2_with fail
       refine HrA.out.mono ?_
       rintro e w1 ⟨rfl, hb1⟩
       have hrB := HrB.out w1 hb1
       clear HrA HrB
       go_wp2_with fail
       refine hrB.mono ?_
       rintro e w2 ⟨rfl, hb2⟩
       have hB2 := chain0 hb1 hb2
       clear hrB hb2 hb1
       go_wp2
       go_ret2
       exact ⟨_, by rw [HV.out]; rfl, by rw [HV.out]; exact OwI.nil _ _, hB2⟩
     ·have n1 : decide ((1 : Int) < (n : Int)) = false := decide_eq_false (by omega)
      by_cases hm1 : 1 < m
      ·have HV : Hid (arV f A B = ([], 253)) := arV_many HQ.out (by rw [← Hn.out]; exact hn0) (by rw [← Hm2.out]; exact hm0) (.inr (by rw [← Hm2.out]; exact hm1))
       have m1 : (1 : Int) < (m : Int) := by omega
       rcases hop with rfl | rfl | rfl | rfl | rfl
       all_goals
        go_enter Tryz.func12, Tryz.ntmps12
        go_wp2_with fail
        refine HrA.out.mono ?_
        rintro e w1 ⟨rfl, hb1⟩
        have hrB := HrB.out w1 hb1
        clear HrA HrB
        go_wp2_with fail
        refine hrB.mono ?_
        rintro e w2 ⟨rfl, hb2⟩
        have hB2 := chain0 hb1 hb2
        clear hrB hb2 hb1
        go_wp2
        go_ret2
        exact ⟨_, by rw [HV.out]; rfl, by rw [HV.out]; exact OwI.nil _ _, hB2⟩
      ·obtain ⟨x, rfl⟩ := one_of Hn.out hn0 hn1
       obtain ⟨y, rfl⟩ := one_of Hm2.out hm0 hm1
       have hn9 : n = 1 := by omega
       have hm9 : m = 1 := by omega
       clear n0 m0 n1 hn0 hm0 hn1 hm1 hnl hml Hn Hm2
       subst hn9 hm9
       have hRx := nV_R x (HRa.out x (by simp))
       have hRy := nV_R y (HRb.out y (by simp))
       have hsx := Ha.out.2.1 x (by simp)
       have hsy := Hb.out.2.1 y (by simp)
       have h4x : x.kind = 4 → x.text = ⟨#[]⟩ := okI_text (by have := HQA.out; simpa using this)
       have h4y : y.kind = 4 → y.text = ⟨#[]⟩ := okI_text (by have := HQB.out; simpa using this)
       obtain ⟨b1, off1, e1, -, -, -, -⟩ := at0 Ha.out.1
       obtain ⟨b2, off2, e2, -, -, -, -⟩ := at0 Hb.out.1
       dsimp only at e1 e2
       subst e1 e2
       have i1 := ix_at0 b1 off1 1 c (by decide)
       have i2 := ix_at0 b2 off2 1 d (by decide)
       obtain ⟨dv, hd1, hd2⟩ := Hm.out _ _ hRx hRy
       have HF := hide hd1
       obtain ⟨fr, hfr⟩ : ∃ z, z = (f (nV x) (nV y)).2 := ⟨_, rfl⟩
       obtain ⟨xe, hxe⟩ : ∃ z, z = nE x := ⟨_, rfl⟩
       obtain ⟨ye, hye⟩ : ∃ z, z = nE y := ⟨_, rfl⟩
       have HNx := hide (fun W => rnumber_any x.kind x.num x.node x.text W h4x hsx)
       have HNy := hide (fun W => rnumber_any y.kind y.num y.node y.text W h4y hsy)
       have hex : (⟨x.kind, x.num, x.text, x.node⟩ : It) = x := rfl
       have hey : (⟨y.kind, y.num, y.text, y.node⟩ : It) = y := rfl
       rw [hex] at HNx
       rw [hey] at HNy
       rw [← hxe] at HNx
       rw [← hye] at HNy
       rw [← hfr] at HF hd2
       have HE : Hid (xe = nE x ∧ ye = nE y) := ⟨hxe, hye⟩
       have HFE : Hid (fr = (f (nV x) (nV y)).2 ∧ (fr = 0 → dv = (f (nV x) (nV y)).1)) := ⟨hfr, hd2⟩
       clear hxe hye hfr hex hey hRx hRy hsx hsy h4x h4y hd1 hd2
       have HV0 : Hid (xe ≠ 0 ∨ ye ≠ 0 → arV f [x] [y] = ([], 250)) := fun h => arV_type HQ.out (by rw [← HE.out.1, ← HE.out.2]; exact h)
       have HV1 : Hid (xe = 0 → ye = 0 → fr ≠ 0 → arV f [x] [y] = ([], fr)) := fun h1 h2 h3 => arV_err HQ.out (by rw [← HE.out.1]; exact h1) (by rw [← HE.out.2]; exact h2) HFE.out.1.symm h3
       have HV2 : Hid (xe = 0 → ye = 0 → fr = 0 → arV f [x] [y] = ([⟨2, dv, ⟨#[]⟩, 0⟩], 0)) := fun h1 h2 h3 => arV_ok HQ.out (by rw [← HE.out.1]; exact h1) (by rw [← HE.out.2]; exact h2) (by rw [← HFE.out.1]; exact h3) (HFE.out.2 h3).symm
       clear HE HFE HQ HQA HQB Hm
       obtain ⟨xv, hxv⟩ : ∃ z, z = nV x := ⟨_, rfl⟩
       obtain ⟨yv, hyv⟩ : ∃ z, z = nV y := ⟨_, rfl⟩
       rw [← hxv] at HNx HF
       rw [← hyv] at HNy HF
       clear hxv hyv
       rcases hop with rfl | rfl | rfl | rfl | rfl
       all_goals
        go_enter Tryz.func12, Tryz.ntmps12
        go_wp2_with fail
        refine HrA.out.mono ?_
        rintro e w1 ⟨rfl, hb1⟩
        have hrB := HrB.out w1 hb1
        clear HrA HrB
        go_wp2_with fail
        refine hrB.mono ?_
        rintro e w2 ⟨rfl, hb2⟩
        have hB2 := chain0 hb1 hb2
        clear hrB hb2 hb1
        obtain ⟨b3, off3, e3, c0, c1, c2, c3⟩ := at0 (Ha.out.1.keep hB2)
        injection e3 with e3
        injection e3 with e3 e4
        subst e3 e4
        go_wp2_with fail
        refine (HNx.out _).mono ?_
        rintro e w3 ⟨rfl, hb3⟩
        have hB3 := chain0 hB2 hb3
        clear hb3 c0 c1 c2 c3 hB2
        obtain ⟨b3, off3, e3, c0, c1, c2, c3⟩ := at0 (Hb.out.1.keep hB3)
        injection e3 with e3
        injection e3 with e3 e4
        subst e3 e4
        go_wp2_with fail
        refine (HNy.out _).mono ?_
        rintro e w4 ⟨rfl, hb4⟩
        have hB4 := chain0 hB3 hb4
        clear hb4 c0 c1 c2 c3 hB3
        by_cases hxe : xe = 0
        ·by_cases hye : ye = 0
         ·subst hxe hye
          have HW1 : Hid (fr ≠ 0 → arV f [x] [y] = ([], fr)) := fun h => HV1.out rfl rfl h
          have HW2 : Hid (fr = 0 → arV f [x] [y] = ([⟨2, dv, ⟨#[]⟩, 0⟩], 0)) := fun h => HV2.out rfl rfl h
          clear HV0 HV1 HV2
          go_wp2_with fail
          refine (HF.out _).mono ?_
          rintro e w5 ⟨rfl, hb5⟩
          have hB5 := chain0 hB4 hb5
          clear hb5 hB4
          by_cases hfr : fr = 0
          ·subst hfr
           have HZ : Hid (arV f [x] [y] = ([⟨2, dv, ⟨#[]⟩, 0⟩], 0)) := HW2.out rfl
           clear HW1 HW2
           go_wp2_with fail
           refine (rwhole_own dv _).mono ?_
           rintro e w6 ⟨v, rfl, ho, hb6⟩
           have hB6 := chain0 hB5 hb6
           have Ho := hide (ho.mono hB5.size)
           clear hb6 ho
           go_wp2
           go_ret2
           exact ⟨v, by rw [HZ.out]; rfl, by rw [HZ.out]; exact Ho.out, hB6⟩
          ·have HZ : Hid (arV f [x] [y] = ([], fr)) := HW1.out hfr
           clear HW1 HW2
           go_wp2
           go_ret2
           exact ⟨_, by rw [HZ.out]; rfl, by rw [HZ.out]; exact OwI.nil _ _, hB5⟩
         ·have HZ : Hid (arV f [x] [y] = ([], 250)) := HV0.out (.inr hye)
          clear HV0 HV1 HV2
          subst hxe
          go_wp2
          go_ret2
          exact ⟨_, by rw [HZ.out]; rfl, by rw [HZ.out]; exact OwI.nil _ _, hB4⟩
        ·have HZ : Hid (arV f [x] [y] = ([], 250)) := HV0.out (.inl hxe)
         clear HV0 HV1 HV2
         go_wp2
         go_ret2
         exact ⟨_, by rw [HZ.out]; rfl, by rw [HZ.out]; exact OwI.nil _ _, hB4⟩
  ·rw [hqb] at HrB
   have HV : Hid (arV f A B = ([], 2)) := arV_bad (by rw [hqb, Bool.and_false])
   clear hqa hqb
   rcases hop with rfl | rfl | rfl | rfl | rfl
   all_goals
    go_enter Tryz.func12, Tryz.ntmps12
    go_wp2_with fail
    refine HrA.out.mono ?_
    rintro e w1 ⟨rfl, hb1⟩
    have hrB := HrB.out w1 hb1
    clear HrA HrB
    go_wp2_with fail
    refine hrB.mono ?_
    rintro e w2 ⟨rfl, hb2⟩
    have hB2 := chain0 hb1 hb2
    clear hrB hb2 hb1
    go_wp2
    go_ret2
    exact ⟨_, by rw [HV.out]; rfl, by rw [HV.out]; exact OwI.nil _ _, hB2⟩
 ·rw [hqa] at HrA
  have HV : Hid (arV f A B = ([], 2)) := arV_bad (by rw [hqa, Bool.false_and])
  clear hqa
  rcases hop with rfl | rfl | rfl | rfl | rfl
  all_goals
   go_enter Tryz.func12, Tryz.ntmps12
   go_wp2_with fail
   refine HrA.out.mono ?_
   rintro e w1 ⟨rfl, hb1⟩
   go_wp2
   go_ret2
   exact ⟨_, by rw [HV.out]; rfl, by rw [HV.out]; exact OwI.nil _ _, hb1⟩
end Go.Proofs.YtmhnndgnnpondaaGreatDoor
namespace Go.Proofs.YtmhnndgnnpondaaGreatDoor
set_option maxRecDepth 100000
set_option maxHeartbeats 4000000
open Go.RowKit
structure NoOp (s : ByteArray) : Prop where
 e1 : (s.toList == [43]) = false
 e2 : (s.toList == [45]) = false
 e3 : (s.toList == [42]) = false
 e4 : (s.toList == [100, 105, 118]) = false
 e5 : (s.toList == [109, 111, 100]) = false
theorem bytes_ne {s : ByteArray} {l : List UInt8} (h : s ≠ ⟨l.toArray⟩) : (s.toList == l) = false := by
 rw [ByteArray.toList_eq]
 simp only [beq_eq_false_iff_ne]
 intro e
 apply h
 apply ByteArray.ext
 apply Array.toList_inj.1
 simpa using e
theorem op_or (s : ByteArray) : IsOp s ∨ NoOp s := by
 by_cases h : IsOp s
 ·exact .inl h
 ·unfold IsOp at h
  simp only [not_or] at h
  exact .inr ⟨bytes_ne h.1, bytes_ne h.2.1, bytes_ne h.2.2.1, bytes_ne h.2.2.2.1, bytes_ne h.2.2.2.2⟩
theorem made_other {s : ByteArray} (h : NoOp s) (x y : Int) : Made s x y 0 2 := by
 intro w
 obtain ⟨h1, h2, h3, h4, h5⟩ := h
 go_enter Tryz.func49, Tryz.ntmps49
 go_wp2
 go_ret2
 exact ⟨rfl, rfl⟩
theorem rarith_other {s : ByteArray} (h : NoOp s) (p q : Option Addr) (n m c d : Nat) (A B : List It) (w : World) (ha : OkA w ⟨p, A, c⟩) (hb : OkA w ⟨q, B, d⟩) (hn : n = A.length) (hm2 : m = B.length) :
  Calls Tryz.prog 12 #[.string s, .slice p n c, .slice q m d] w fun e w' => e = .returned (.tuple #[.slice none 0 0, .int .i64 2]) ∧ Below w.heap.size w w' := by
 obtain ⟨h1, h2, h3, h4, h5⟩ := h
 have HrA := hide (rrights_any p n c A w ha hn)
 have HrB := hide (fun (w' : World) (hk : Below w.heap.size w w') => rrights_any q m d B w' ⟨hb.1.keep hk, hb.2⟩ hm2)
 clear ha hb hn hm2
 rcases Bool.eq_false_or_eq_true (A.all okI) with hqa | hqa
 ·rw [hqa] at HrA
  rcases Bool.eq_false_or_eq_true (B.all okI) with hqb | hqb
  all_goals
   rw [hqb] at HrB
   clear hqa hqb
   go_enter Tryz.func12, Tryz.ntmps12
   go_wp2_with fail
   refine HrA.out.mono ?_
   rintro e w1 ⟨rfl, hb1⟩
   have hrB := HrB.out w1 hb1
   clear HrA HrB
   go_wp2_with fail
   refine hrB.mono ?_
   rintro e w2 ⟨rfl, hb2⟩
   have hB2 := chain0 hb1 hb2
   clear hrB hb2 hb1
   go_wp2
   go_ret2
   exact ⟨rfl, hB2⟩
 ·rw [hqa] at HrA
  clear hqa
  go_enter Tryz.func12, Tryz.ntmps12
  go_wp2_with fail
  refine HrA.out.mono ?_
  rintro e w1 ⟨rfl, hb1⟩
  go_wp2
  go_ret2
  exact ⟨rfl, hb1⟩
def ArP (s : ByteArray) (F : List It → List It → List It × Int) : Prop := ∀ (p q : Option Addr) (n m c d : Nat) (A B : List It) (w : World), Env w → OkA w ⟨p, A, c⟩ → OkA w ⟨q, B, d⟩ → (∀ y ∈ A, R64 y.num) → (∀ y ∈ B, R64 y.num) → n = A.length → m = B.length →
 Calls Tryz.prog 11 #[.string s, .slice p n c, .slice q m d] w fun e w' => ∃ v, e = .returned (.tuple #[v, .int .i64 (F A B).2]) ∧ OwI w' w.heap.size v (F A B).1 ∧ Below w.heap.size w w'
def ArR (s : ByteArray) (F : List It → List It → List It × Int) : Prop := ∀ (p q : Option Addr) (n m c d : Nat) (A B : List It) (w : World), OkA w ⟨p, A, c⟩ → OkA w ⟨q, B, d⟩ → (∀ y ∈ A, R64 y.num) → (∀ y ∈ B, R64 y.num) → n = A.length → m = B.length →
 Calls Tryz.prog 12 #[.string s, .slice p n c, .slice q m d] w fun e w' => ∃ v, e = .returned (.tuple #[v, .int .i64 (F A B).2]) ∧ OwI w' w.heap.size v (F A B).1 ∧ Below w.heap.size w w'
theorem arV_len (f : Int → Int → Int × Int) (A B : List It) : (arV f A B).1.length ≤ 1 := by
 unfold arV
 repeat' split
 all_goals simp
theorem erV_ok {b : Bool} (h : erV b = 0) : b = true := by
 cases b
 ·exact absurd h (by decide)
 ·rfl
def fPlus (a b : Int) : Int × Int := (mkV (fit (a + b)) (a + b), erV (fit (a + b)))
def fMinus (a b : Int) : Int × Int := (mkV (fit (a - b)) (a - b), erV (fit (a - b)))
def fTimes (a b : Int) : Int × Int := (mkV (fit (a * b)) (a * b), erV (fit (a * b)))
def fDiv (a b : Int) : Int × Int := if b = 0 then (0, 252) else (mkV (fit (a.tdiv b)) (a.tdiv b), erV (fit (a.tdiv b)))
def fMod (a b : Int) : Int × Int := if b = 0 then (0, 252) else (a.tmod b, 0)
structure OpF (s : ByteArray) (f : Int → Int → Int × Int) : Prop where
 p : ∀ x y, R64 x → R64 y → Made s x y (f x y).1 (f x y).2
 o : (f 1 1).2 = 0
 r : RF s f
theorem opMinus : OpF ⟨#[45]⟩ fMinus := ⟨fun x y hx hy => made_minus x y hx hy, by decide, fun x y hx hy => by
 obtain ⟨v, h1, h2⟩ := rdone_minus x y hx hy
 exact ⟨v, h1, fun h => by
  have hf := erV_ok h
  rw [h2 hf]
  exact (mkV_yes hf).symm⟩⟩
theorem op_table {s : ByteArray} (h : IsOp s) : ∃ f, OpF s f := by
 rcases h with rfl | rfl | rfl | rfl | rfl
 ·exact ⟨fPlus, fun x y hx hy => made_plus x y hx hy, by decide, fun x y hx hy => ⟨_, rdone_plus x y hx hy, fun _ => rfl⟩⟩
 ·exact ⟨fMinus, opMinus⟩
 ·exact ⟨fTimes, fun x y hx hy => made_times x y hx hy, by decide, fun x y hx hy => ⟨_, rdone_times x y hx hy, fun _ => rfl⟩⟩
 ·refine ⟨fDiv, fun x y hx hy => ?_, by decide, fun x y hx hy => ?_⟩
  ·unfold fDiv
   by_cases h0 : y = 0
   ·rw [if_pos h0, h0]; exact made_div0 x
   ·rw [if_neg h0]; exact made_div x y hx hy h0
  ·unfold fDiv
   by_cases h0 : y = 0
   ·rw [if_pos h0, h0]; exact ⟨0, rdone_zero _ x (.inl rfl), fun _ => rfl⟩
   ·rw [if_neg h0]; exact ⟨_, rdone_div x y hx hy h0, fun _ => rfl⟩
 ·refine ⟨fMod, fun x y hx hy => ?_, by decide, fun x y hx hy => ?_⟩
  ·unfold fMod
   by_cases h0 : y = 0
   ·rw [if_pos h0, h0]; exact made_mod0 x
   ·rw [if_neg h0]; exact made_mod x y hx hy h0
  ·unfold fMod
   by_cases h0 : y = 0
   ·rw [if_pos h0, h0]; exact ⟨0, rdone_zero _ x (.inr rfl), fun _ => rfl⟩
   ·rw [if_neg h0]; exact ⟨_, rdone_mod x y hx hy h0, fun _ => rfl⟩
theorem R64_one : R64 1 := by unfold R64; omega
theorem OpF.eleven {s : ByteArray} {f : Int → Int → Int × Int} (h : OpF s f) : Made s 1 1 (f 1 1).1 0 := by
 have := h.p 1 1 R64_one R64_one
 rw [h.o] at this
 exact this
theorem arith_both (s : ByteArray) : ∃ F, ArP s F ∧ ArR s F ∧ ∀ A B, (F A B).1.length ≤ 1 := by
 rcases op_or s with h | h
 ·obtain ⟨f, hf⟩ := op_table h
  exact ⟨arV f, fun p q n m c d A B w he ha hb h1 h2 hn hm => arith_any s _ hf.p hf.eleven p q n m c d A B w he ha hb h1 h2 hn hm, fun p q n m c d A B w ha hb h1 h2 hn hm => rarith_any s h hf.r p q n m c d A B w ha hb h1 h2 hn hm, arV_len f⟩
 ·refine ⟨fun _ _ => ([], 2), fun p q n m c d A B w _ _ _ _ _ _ _ => ?_, fun p q n m c d A B w ha hb _ _ hn hm => ?_, fun _ _ => Nat.zero_le _⟩
  ·refine (arith_other s (made_other h 1 1) _ _ w).mono ?_
   rintro e w' ⟨rfl, rfl⟩
   exact ⟨_, rfl, OwI.nil _ _, Below.refl _ _⟩
  ·refine (rarith_other h p q n m c d A B w ha hb hn hm).mono ?_
   rintro e w' ⟨rfl, hk⟩
   exact ⟨_, rfl, OwI.nil _ _, hk⟩
def zeroI : It := ⟨2, 0, ⟨#[]⟩, 0⟩
theorem zero_ok {w : World} {a : Option Addr} {B c : Nat} (h : OwI w B (.slice a 1 c) [zeroI]) : OkA w ⟨a, [zeroI], c⟩ :=
 ⟨h.rd, fun y hy => by rw [List.mem_singleton] at hy; subst hy; exact Nat.zero_le _, by show 1 < _; decide⟩
theorem zero_R : ∀ y ∈ [zeroI], R64 y.num := fun y hy => by rw [List.mem_singleton] at hy; subst hy; unfold R64 zeroI; decide
theorem minus_any (p : Option Addr) (n c : Nat) (l : List It) (w : World) (he : Env w) (ha : OkA w ⟨p, l, c⟩) (hR : ∀ y ∈ l, R64 y.num) (hn : n = l.length) :
  Calls Tryz.prog 13 #[.slice p n c] w fun e w' => ∃ v, e = .returned (.tuple #[v, .int .i64 (arV fMinus [zeroI] l).2]) ∧ OwI w' w.heap.size v (arV fMinus [zeroI] l).1 ∧ Below w.heap.size w w' := by
 have Ha := hide ha
 have HR := hide hR
 have Hn := hide hn
 have He := hide he
 clear ha hR hn he
 go_enter Tryz.func13, Tryz.ntmps13
 go_wp2_with fail
 refine (vwhole_own 0 _).mono ?_
 rintro e w1 ⟨v, rfl, ho, hb1⟩
 obtain ⟨a0, c0, hv⟩ := ow_forms ho
 subst hv
 have ho1 : OwI w1 w.heap.size (.slice a0 1 c0) [zeroI] := ho
 have hc := hide (arith_any ⟨#[45]⟩ _ opMinus.p opMinus.eleven a0 p 1 n c0 c [zeroI] l w1 (He.out.keep hb1) (zero_ok ho1) ⟨Ha.out.1.keep hb1, Ha.out.2⟩ zero_R HR.out rfl Hn.out)
 clear ho ho1
 go_wp2_with fail
 refine hc.out.mono ?_
 rintro e w2 ⟨v2, rfl, ho2, hb2⟩
 have hB2 := chain0 hb1 hb2
 have Ho := hide (ho2.mono hb1.size)
 clear hb1 hb2 ho2
 go_wp2
 go_ret2
 exact ⟨v2, rfl, Ho.out, hB2⟩
theorem rminus_any (p : Option Addr) (n c : Nat) (l : List It) (w : World) (ha : OkA w ⟨p, l, c⟩) (hR : ∀ y ∈ l, R64 y.num) (hn : n = l.length) :
  Calls Tryz.prog 14 #[.slice p n c] w fun e w' => ∃ v, e = .returned (.tuple #[v, .int .i64 (arV fMinus [zeroI] l).2]) ∧ OwI w' w.heap.size v (arV fMinus [zeroI] l).1 ∧ Below w.heap.size w w' := by
 have Ha := hide ha
 have HR := hide hR
 have Hn := hide hn
 clear ha hR hn
 go_enter Tryz.func14, Tryz.ntmps14
 go_wp2_with fail
 refine (rwhole_own 0 _).mono ?_
 rintro e w1 ⟨v, rfl, ho, hb1⟩
 obtain ⟨a0, c0, hv⟩ := ow_forms ho
 subst hv
 have ho1 : OwI w1 w.heap.size (.slice a0 1 c0) [zeroI] := ho
 have hc := hide (rarith_any ⟨#[45]⟩ (.inr (.inl rfl)) opMinus.r a0 p 1 n c0 c [zeroI] l w1 (zero_ok ho1) ⟨Ha.out.1.keep hb1, Ha.out.2⟩ zero_R HR.out rfl Hn.out)
 clear ho ho1
 go_wp2_with fail
 refine hc.out.mono ?_
 rintro e w2 ⟨v2, rfl, ho2, hb2⟩
 have hB2 := chain0 hb1 hb2
 have Ho := hide (ho2.mono hb1.size)
 clear hb1 hb2 ho2
 go_wp2
 go_ret2
 exact ⟨v2, rfl, Ho.out, hB2⟩
end Go.Proofs.YtmhnndgnnpondaaGreatDoor
