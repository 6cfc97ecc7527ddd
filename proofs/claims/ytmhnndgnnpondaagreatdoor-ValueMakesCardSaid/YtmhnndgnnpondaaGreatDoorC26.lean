/- value.Truth at what awake asks. awake: the chapter's examples. ValueMakes: the walk. What the rows of the Value laws list: what the walks ask of the world. -/
import Derived.Test.YtmhnndgnnpondaaGreatDoorC13
import Derived.Test.YtmhnndgnnpondaaGreatDoorC25
import Derived.Test.YtmhnndgnnpondaaGreatDoorC14
import Derived.Test.YtmhnndgnnpondaaGreatDoorC19
import Derived.Test.YtmhnndgnnpondaaGreatDoorC24
import Derived.Test.YtmhnndgnnpondaaGreatDoorRows
import Derived.Lib.LaidU8
import Derived.LaidLaws
import Derived.Lay
import Derived.SevenTiedAt
import Derived.LaidOnce
import Derived.LaidMore
import Derived.MakeChecks
import Derived.WalkKit
import Derived.ProofKit
import Derived.OpenShut
import Derived.Stop.Joined
namespace Go.Proofs.YtmhnndgnnpondaaGreatDoor
open Go.RowKit
def xTr : List It := [⟨1, 0, ⟨#[]⟩, 0⟩, ⟨2, 1, ⟨#[]⟩, 0⟩]
set_option maxRecDepth 100000 in
set_option maxHeartbeats 4000000 in
theorem truth_node (g1 c1 : Nat) (w : World) (h1 : RdI w (some ⟨g1, 0, none⟩) xTr) :
  Calls Tryz.prog 24 #[.slice (some ⟨g1, 0, none⟩) 2 c1] w fun e w' => e = .returned (.tuple #[.bool true, .int .i64 0]) ∧ Below w.heap.size w w' := by
 have k1 : ∀ y ∈ xTr, Good y := by
  intro y hy
  simp only [xTr, List.mem_cons, List.not_mem_nil, or_false] at hy
  rcases hy with rfl | rfl
  ·exact .node ⟨#[]⟩ 0 ascii_nil zero_le8
  ·exact .int 1
 have H1 := hide h1
 clear h1
 have i10 := ix_item0 g1 2 c1 (by decide)
 go_enter Tryz.func24, Tryz.ntmps24
 go_wp2_with fail
 refine (right_one g1 c1 xTr w H1.out k1 (by decide) 2 rfl).mono ?_
 rintro e w1 ⟨rfl, hb1⟩
 obtain ⟨a_0, a_1, a_2, a_3⟩ := (H1.out.keep hb1).z0 _ rfl
 go_wp2
 go_ret2
 exact ⟨rfl, hb1⟩
end Go.Proofs.YtmhnndgnnpondaaGreatDoor
namespace Go.Proofs.YtmhnndgnnpondaaGreatDoor
open Go.RowKit
theorem isNum_four : IsNum 3 0 ⟨#[52]⟩ 0 4 := fun w => number_yes 3 0 0 ⟨#[52]⟩ 4 w (by decide) (by decide) (by decide) (by kernel_rfl) (by decide)
theorem isNum_five : IsNum 1 0 ⟨#[53]⟩ 1 5 := fun w => number_yes 1 0 1 ⟨#[53]⟩ 5 w (by decide) (by decide) (by decide) (by kernel_rfl) (by decide)
theorem ascii_4 : Ascii ⟨#[52]⟩ := by unfold Ascii; decide
theorem ascii_5 : Ascii ⟨#[53]⟩ := by unfold Ascii; decide
theorem R64_lit (x : Int) (h : fit x = true) : R64 x := (fit_iff x).1 h
theorem awake_div : Made ⟨#[100, 105, 118]⟩ (-7) 2 (-3) 0 := by
 have := made_div (-7) 2 (R64_lit _ (by decide)) (R64_lit _ (by decide)) (by decide)
 rwa [show mkV (fit (Int.tdiv (-7) 2)) (Int.tdiv (-7) 2) = -3 by kernel_rfl, show erV (fit (Int.tdiv (-7) 2)) = 0 by kernel_rfl] at this
theorem awake_div1 : Made ⟨#[100, 105, 118]⟩ 1 1 1 0 := by
 have := made_div 1 1 (R64_lit _ (by decide)) (R64_lit _ (by decide)) (by decide)
 rwa [show mkV (fit (Int.tdiv 1 1)) (Int.tdiv 1 1) = 1 by kernel_rfl, show erV (fit (Int.tdiv 1 1)) = 0 by kernel_rfl] at this
theorem awake_plus : Made ⟨#[43]⟩ 4 5 9 0 := by
 have := made_plus 4 5 (R64_lit _ (by decide)) (R64_lit _ (by decide))
 rwa [show mkV (fit (4 + 5)) (4 + 5) = 9 by kernel_rfl, show erV (fit (4 + 5)) = 0 by kernel_rfl] at this
theorem awake_plus1 : Made ⟨#[43]⟩ 1 1 2 0 := by
 have := made_plus 1 1 (R64_lit _ (by decide)) (R64_lit _ (by decide))
 rwa [show mkV (fit (1 + 1)) (1 + 1) = 2 by kernel_rfl, show erV (fit (1 + 1)) = 0 by kernel_rfl] at this
set_option maxRecDepth 100000 in
set_option maxHeartbeats 8000000 in
theorem awake_ok (m : Int) (ev : Value) (w : World) (hm : w.cell? ⟨3, 0, none⟩ = some (.int .i64 m)) (hc : Counts w) (hv : w.cell? ⟨5, 0, none⟩ = some ev) (hev : ev = .nilIface ∨ ∃ te pe, ev = .iface te pe) :
  Calls Tryz.prog 5 #[] w fun e w' => e = .returned (.bool true) ∧ Below w.heap.size w w' := by
 have Hm := hide hm
 have Hc := hide hc
 have Hv := hide hv
 have Hev := hide hev
 clear hm hc hv hev
 have hB0 := Below.refl w.heap.size w
 go_enter Tryz.func5, Tryz.ntmps5
 go_wp2_with fail
 refine (lwhole_any 1 _).mono ?_
 rintro e w1 ⟨rfl, hb1⟩
 have hB1 : Below w.heap.size w w1 := by first | exact chain0 hB0 hb1 | exact chain1 hB0 hb1 | exact chain2 hB0 hb1
 go_wp2_with fail
 refine (lnode_any 3 ⟨#[50]⟩ _).mono ?_
 rintro e w2 ⟨rfl, hb2⟩
 have hB2 : Below w.heap.size w w2 := by first | exact chain0 hB1 hb2 | exact chain1 hB1 hb2 | exact chain2 hB1 hb2
 clear hb1 hb2 hB1
 go_wp2_with fail
 refine (lrow_any _ _ _ _).mono ?_
 rintro e wx ⟨rfl, rfl⟩
 go_wp2_with fail
 refine (lstr_any ⟨#[50]⟩ _).mono ?_
 rintro e w3 ⟨rfl, hb3⟩
 have hB3 : Below w.heap.size w w3 := by first | exact chain0 hB2 hb3 | exact chain1 hB2 hb3 | exact chain2 hB2 hb3
 have R3 := hide ((RdI.new w2 31 xEq1).keep hb3)
 clear hb3 hB2
 go_wp2_with fail
 refine (lrow_any _ _ _ _).mono ?_
 rintro e wx ⟨rfl, rfl⟩
 go_wp2_with fail
 refine (compare_eq w2.heap.size w3.heap.size 2 1 _ (R3.out.alloc _) (RdI.new w3 31 xEq2)).mono ?_
 rintro e w4 ⟨rfl, hb4⟩
 have hB4 : Below w.heap.size w w4 := by first | exact chain0 hB3 hb4 | exact chain1 hB3 hb4 | exact chain2 hB3 hb4
 clear hb4 hB3 R3
 go_wp2_with fail
 refine (lwhole_any 1 _).mono ?_
 rintro e w5 ⟨rfl, hb5⟩
 have hB5 : Below w.heap.size w w5 := by first | exact chain0 hB4 hb5 | exact chain1 hB4 hb5 | exact chain2 hB4 hb5
 clear hb5 hB4
 go_wp2_with fail
 refine (lrow_any _ _ _ _).mono ?_
 rintro e wx ⟨rfl, rfl⟩
 go_wp2_with fail
 refine (lstr_any ⟨#[120]⟩ _).mono ?_
 rintro e w6 ⟨rfl, hb6⟩
 have hB6 : Below w.heap.size w w6 := by first | exact chain0 hB5 hb6 | exact chain1 hB5 hb6 | exact chain2 hB5 hb6
 have R6 := hide ((RdI.new w5 31 xOne).keep hb6)
 clear hb6 hB5
 go_wp2_with fail
 refine (lrow_any _ _ _ _).mono ?_
 rintro e wx ⟨rfl, rfl⟩
 go_wp2_with fail
 refine (compare_lt w5.heap.size w6.heap.size 1 1 ev _ (cell_keep (hB6.alloc hB6.size _) Hv.out) Hev.out (R6.out.alloc _) (RdI.new w6 31 xLt2)).mono ?_
 rintro e w7 ⟨rfl, hb7⟩
 have hB7 : Below w.heap.size w w7 := by first | exact chain0 hB6 hb7 | exact chain1 hB6 hb7 | exact chain2 hB6 hb7
 clear hb7 hB6 R6
 go_wp2_with fail
 refine (lstr_any motorS _).mono ?_
 rintro e w8 ⟨rfl, hb8⟩
 have hB8 : Below w.heap.size w w8 := by first | exact chain0 hB7 hb8 | exact chain1 hB7 hb8 | exact chain2 hB7 hb8
 clear hb8 hB7
 go_wp2_with fail
 refine (lrow_any _ _ _ _).mono ?_
 rintro e wx ⟨rfl, rfl⟩
 go_wp2_with fail
 refine (lwhole_any 2 _).mono ?_
 rintro e w9 ⟨rfl, hb9⟩
 have hB9 : Below w.heap.size w w9 := by first | exact chain0 hB8 hb9 | exact chain1 hB8 hb9 | exact chain2 hB8 hb9
 have R9 := hide ((RdI.new w8 31 [⟨3, 0, motorS, 0⟩]).keep hb9)
 clear hB8
 go_wp2_with fail
 refine (lrow_any _ _ _ _).mono ?_
 rintro e wx ⟨rfl, rfl⟩
 go_wp2_with fail
 refine (lwhole_any 3 _).mono ?_
 rintro e w10 ⟨rfl, hb10⟩
 have hB10 : Below w.heap.size w w10 := by first | exact chain0 hB9 hb10 | exact chain1 hB9 hb10 | exact chain2 hB9 hb10
 have R10 := hide ((R9.out.alloc (.cells (icells [⟨2, 2, ⟨#[]⟩, 0⟩]).toArray 31)).keep hb10)
 have S10 := hide ((RdI.new w9 31 [⟨2, 2, ⟨#[]⟩, 0⟩]).keep hb10)
 clear hb9 hb10 hB9 R9
 go_wp2_with fail
 refine (lrow_any _ _ _ _).mono ?_
 rintro e wx ⟨rfl, rfl⟩
 have hr11 : Rd ((w10.alloc (.cells (icells [⟨2, 3, ⟨#[]⟩, 0⟩]).toArray 31)).alloc (.cells #[.slice (some ⟨w8.heap.size, 0, none⟩) 1 1, .slice (some ⟨w9.heap.size, 0, none⟩) 1 1, .slice (some ⟨w10.heap.size, 0, none⟩) 1 1] 22)) (some ⟨w10.heap.size + 1, 0, none⟩) [.slice (some ⟨w8.heap.size, 0, none⟩) 1 1, .slice (some ⟨w9.heap.size, 0, none⟩) 1 1, .slice (some ⟨w10.heap.size, 0, none⟩) 1 1] := by
  have := Rd.new (w10.alloc (.cells (icells [⟨2, 3, ⟨#[]⟩, 0⟩]).toArray 31)) 22 [.slice (some ⟨w8.heap.size, 0, none⟩) 1 1, .slice (some ⟨w9.heap.size, 0, none⟩) 1 1, .slice (some ⟨w10.heap.size, 0, none⟩) 1 1]
  rwa [show (w10.alloc (.cells (icells [⟨2, 3, ⟨#[]⟩, 0⟩]).toArray 31)).heap.size = w10.heap.size + 1 by simp] at this
 have Hr11 := hide hr11
 clear hr11
 have hBz : Below w.heap.size w ((w10.alloc (.cells (icells [⟨2, 3, ⟨#[]⟩, 0⟩]).toArray 31)).alloc (.cells #[.slice (some ⟨w8.heap.size, 0, none⟩) 1 1, .slice (some ⟨w9.heap.size, 0, none⟩) 1 1, .slice (some ⟨w10.heap.size, 0, none⟩) 1 1] 22)) := by
  have h1 := hB10.alloc hB10.size (.cells (icells [⟨2, 3, ⟨#[]⟩, 0⟩]).toArray 31)
  exact h1.alloc h1.size _
 go_wp2_with fail
 refine (call_sub m (w10.heap.size + 1) 3 w8.heap.size w9.heap.size w10.heap.size 1 1 1 _ (cell_keep hBz Hm.out) (Hc.out.keep hBz) Hr11.out ((R10.out.alloc _).alloc _) ((S10.out.alloc _).alloc _) ((RdI.new w10 31 [⟨2, 3, ⟨#[]⟩, 0⟩]).alloc _)).mono ?_
 rintro e w11 ⟨g, rfl, hg, hr, hb11⟩
 have hB11 := chain0 hBz hb11
 have Rg := hide hr
 clear hg hr hb11 hBz Hr11 R10 S10 hB10
 go_wp2_with fail
 refine (lnode_any 0 ⟨#[]⟩ _).mono ?_
 rintro e w12 ⟨rfl, hb12⟩
 have hB12 : Below w.heap.size w w12 := by first | exact chain0 hB11 hb12 | exact chain1 hB11 hb12 | exact chain2 hB11 hb12
 go_wp2_with fail
 refine (lwhole_any 1 _).mono ?_
 rintro e w13 ⟨rfl, hb13⟩
 have hB13 : Below w.heap.size w w13 := by first | exact chain0 hB12 hb13 | exact chain1 hB12 hb13 | exact chain2 hB12 hb13
 have Rg2 := hide ((Rg.out.keep hb12).keep hb13)
 clear hb12 hb13 Rg hB12 hB11
 go_wp2_with fail
 refine (lrow_any _ _ _ _).mono ?_
 rintro e wx ⟨rfl, rfl⟩
 go_wp2_with fail
 refine (truth_node w13.heap.size 2 _ (RdI.new w13 31 xTr)).mono ?_
 rintro e w14 ⟨rfl, hb14⟩
 have hB14 : Below w.heap.size w w14 := by first | exact chain0 hB13 hb14 | exact chain1 hB13 hb14 | exact chain2 hB13 hb14
 have Rg := hide ((Rg2.out.alloc (.cells (icells xTr).toArray 31)).keep hb14)
 clear hb14 hB13 Rg2
 go_wp2_with fail
 refine (lstr_any ⟨#[111, 116, 111]⟩ _).mono ?_
 rintro e w15 ⟨rfl, hb15⟩
 have hB15 : Below w.heap.size w w15 := by first | exact chain0 hB14 hb15 | exact chain1 hB14 hb15 | exact chain2 hB14 hb15
 have Rg2 := hide (Rg.out.keep hb15)
 clear hb15 hB14 Rg
 go_wp2_with fail
 refine (lrow_any _ _ _ _).mono ?_
 rintro e wx ⟨rfl, rfl⟩
 go_wp2_with fail
 refine (same_one g w15.heap.size 1 1 3 0 0 ⟨#[111, 116, 111]⟩ _ (Rg2.out.alloc _) (RdI.new w15 31 [⟨3, 0, ⟨#[111, 116, 111]⟩, 0⟩])).mono ?_
 rintro e w16 ⟨rfl, hb16⟩
 have hB16 : Below w.heap.size w w16 := by first | exact chain0 hB15 hb16 | exact chain1 hB15 hb16 | exact chain2 hB15 hb16
 clear hb16 hB15 Rg2
 go_wp2_with fail
 refine (lwhole_any (-7) _).mono ?_
 rintro e w17 ⟨rfl, hb17⟩
 have hB17 : Below w.heap.size w w17 := by first | exact chain0 hB16 hb17 | exact chain1 hB16 hb17 | exact chain2 hB16 hb17
 clear hb17 hB16
 go_wp2_with fail
 refine (lwhole_any 2 _).mono ?_
 rintro e w18 ⟨rfl, hb18⟩
 have hB18 : Below w.heap.size w w18 := by first | exact chain0 hB17 hb18 | exact chain1 hB17 hb18 | exact chain2 hB17 hb18
 clear hb18 hB17
 go_wp2_with fail
 refine (is_any ⟨#[100, 105, 118]⟩ 2 2 (-7) 2 0 0 (-7) 2 1 (-3) ⟨#[]⟩ ⟨#[]⟩ _ (.int (-7)) (.int 2) (isNum_int (-7)) (isNum_int 2) awake_div1 awake_div).mono ?_
 rintro e w19 ⟨rfl, hb19⟩
 have hB19 : Below w.heap.size w w19 := by first | exact chain0 hB18 hb19 | exact chain1 hB18 hb19 | exact chain2 hB18 hb19
 clear hb19 hB18
 go_wp2_with fail
 refine (lstr_any ⟨#[52]⟩ _).mono ?_
 rintro e w20 ⟨rfl, hb20⟩
 have hB20 : Below w.heap.size w w20 := by first | exact chain0 hB19 hb20 | exact chain1 hB19 hb20 | exact chain2 hB19 hb20
 clear hb20 hB19
 go_wp2_with fail
 refine (lnode_any 1 ⟨#[53]⟩ _).mono ?_
 rintro e w21 ⟨rfl, hb21⟩
 have hB21 : Below w.heap.size w w21 := by first | exact chain0 hB20 hb21 | exact chain1 hB20 hb21 | exact chain2 hB20 hb21
 clear hb21 hB20
 go_wp2_with fail
 refine (is_any ⟨#[43]⟩ 3 1 0 0 0 1 4 5 2 9 ⟨#[52]⟩ ⟨#[53]⟩ _ (.str _ ascii_4 le8_one) (.node _ 1 ascii_5 le8_one) isNum_four isNum_five awake_plus1 awake_plus).mono ?_
 rintro e w22 ⟨rfl, hb22⟩
 have hB22 : Below w.heap.size w w22 := by first | exact chain0 hB21 hb22 | exact chain1 hB21 hb22 | exact chain2 hB21 hb22
 clear hb22 hB21
 go_wp2
 go_ret
 exact ⟨rfl, hB22⟩
end Go.Proofs.YtmhnndgnnpondaaGreatDoor
namespace Go.Proofs.YtmhnndgnnpondaaGreatDoor
open Go.RowKit
theorem lent_ok {w : World} {g n : Nat} {l : List It} {a : Option Addr} {c : Nat} {w0 : World} (h : RdI w (some ⟨g, 0, none⟩) (lentI l)) (ho : OkA w0 ⟨a, l, c⟩) : OkA w ⟨some ⟨g, 0, none⟩, l, n⟩ :=
 ⟨by have h2 : RdI w (some ⟨g, 0, none⟩) (l ++ imarks 12) := h; exact h2.left, ho.2⟩
set_option maxRecDepth 100000 in
set_option maxHeartbeats 8000000 in
theorem valueMakes_ok (s : ByteArray) (p q : Option Addr) (na nb c d : Nat) (A B : List It) (m : Int) (w : World) (he : Env w) (hm : w.cell? ⟨3, 0, none⟩ = some (.int .i64 m)) (hc : Counts w) (hoa : OkA w ⟨p, A, c⟩) (hob : OkA w ⟨q, B, d⟩) (hRa : ∀ y ∈ A, R64 y.num) (hRb : ∀ y ∈ B, R64 y.num) (hna : na = A.length) (hnb : nb = B.length) :
  Calls Tryz.prog 4 #[.string s, .slice p na c, .slice q nb d] w fun e w' => e = .returned (.bool true) ∧ Below w.heap.size w w' := by
 have He := hide he
 have Hm := hide hm
 have Hc := hide hc
 have Hoa := hide hoa
 have Hob := hide hob
 have HRa := hide hRa
 have HRb := hide hRb
 have Hna := hide hna
 have Hnb := hide hnb
 have hal : Below w.heap.size w (w.alloc (.cells #[.slice p na c, .slice q nb d] 22)) := (Below.refl _ _).alloc (Nat.le_refl _) _
 have hg := great_size (some ⟨w.heap.size, 0, none⟩) 2 2 [⟨p, A, c⟩, ⟨q, B, d⟩] (w.alloc (.cells #[.slice p na c, .slice q nb d] 22)) rfl (by decide) (by rw [hna, hnb]; exact Rd.new w 22 [.slice p A.length c, .slice q B.length d])
  (by
   intro x hx
   simp only [List.mem_cons, List.not_mem_nil, or_false] at hx
   rcases hx with rfl | rfl
   ·exact ⟨hoa.1.keep hal, hoa.2⟩
   ·exact ⟨hob.1.keep hal, hob.2⟩)
 have HG := hide hg
 clear he hm hc hoa hob hRa hRb hna hnb hg
 go_enter Tryz.func4, Tryz.ntmps4
 go_wp2_with fail
 refine HG.out.mono ?_
 rintro e w1 ⟨⟨z, rfl, hq⟩, hb1⟩
 have hB1 := chain0 hal hb1
 clear HG hal hb1
 by_cases hq0 : z = 0
 ·subst hq0
  clear hq
  obtain ⟨ev, hv, hev⟩ := (He.out.keep hB1).syn
  go_wp2_with fail
  refine (awake_ok m ev _ (cell_keep hB1 Hm.out) (Hc.out.keep hB1) hv hev).mono ?_
  rintro e w99 ⟨rfl, hb99⟩
  have hB99 := chain0 hB1 hb99
  go_wp2
  go_ret
  exact ⟨rfl, hB99⟩
 ·have hqq := hq hq0
  have hza : A.length ≤ 300 := hqq.1 ⟨p, A, c⟩ (by simp)
  have hzb : B.length ≤ 300 := hqq.1 ⟨q, B, d⟩ (by simp)
  have hna3 : na ≤ 300 := by have := Hna.out; omega
  have hnb3 : nb ≤ 300 := by have := Hnb.out; omega
  have hqf : (z == 0) = false := by simpa using hq0
  rw [hqf]
  clear hq hqq hqf hq0 hza hzb
  by_cases h1000 : (1000 : Int) < (s.size : Int)
  ·obtain ⟨ev, hv, hev⟩ := (He.out.keep hB1).syn
   go_wp2_with fail
   refine (awake_ok m ev _ (cell_keep hB1 Hm.out) (Hc.out.keep hB1) hv hev).mono ?_
   rintro e w99 ⟨rfl, hb99⟩
   have hB99 := chain0 hB1 hb99
   go_wp2
   go_ret
   exact ⟨rfl, hB99⟩
  ·obtain ⟨F, hF1, hF2, hF3⟩ := arith_both s
   have HF1 := hide hF1
   have HF2 := hide hF2
   have HF3 := hide hF3
   clear hF1 hF2 hF3
   -- the rows are lent
   have C1 := lentI_own p A na c w1 (Hoa.out.1.keep hB1) Hna.out (by omega)
   go_wp2_with fail
   refine C1.mono ?_
   rintro e w2 ⟨rfl, ox, hb2⟩
   have hB2 := chain0 hB1 hb2
   have C2 := lentI_own q B nb d w2 (Hob.out.1.keep hB2) Hnb.out (by omega)
   have Ox := hide ox
   clear C1 ox
   go_wp2_with fail
   refine C2.mono ?_
   rintro e w3 ⟨rfl, oy, hb3⟩
   have hB3 := chain0 hB2 hb3
   have Ox3 := hide (Ox.out.keep hb3)
   have Oy3 := hide oy
   obtain ⟨gx, hgx⟩ : ∃ g, g = w1.heap.size := ⟨_, rfl⟩
   obtain ⟨gy, hgy⟩ : ∃ g, g = w2.heap.size := ⟨_, rfl⟩
   rw [← hgx] at Ox3 ⊢
   rw [← hgy] at Oy3 ⊢
   have hgx3 : gx < w3.heap.size := by
    have h9 := (ow_lt Ox3.out gx rfl).2
    exact h9
   have hwx : w.heap.size ≤ gx := by rw [hgx]; exact hB1.size
   have HGX := hide hgx3
   have HWX := hide hwx
   clear C2 oy Ox hgx hgy hgx3 hwx hb2 hb3 hB1 hB2
   -- the calls
   have hO0 := Out.start w3 w3.heap.size
   have hC3 := Below.refl w3.heap.size w3
   have hw3 : w.heap.size ≤ w3.heap.size := hB3.size
   have HW3 := hide hw3
   clear hw3
   obtain ⟨l1, hl1⟩ : ∃ l, l = (F A B).1 := ⟨_, rfl⟩
   obtain ⟨e1, he1⟩ : ∃ e, e = (F A B).2 := ⟨_, rfl⟩
   have K3 := HF1.out (some ⟨gx, 0, none⟩) (some ⟨gy, 0, none⟩) na nb (na + 12) (nb + 12) A B w3 (He.out.keep hB3) (lent_ok Ox3.out.rd Hoa.out) (lent_ok Oy3.out.rd Hob.out) HRa.out HRb.out Hna.out Hnb.out
   have R1 := fun (W : World) (hB : Below w.heap.size w W) => HF2.out p q na nb c d A B W ⟨Hoa.out.1.keep hB, Hoa.out.2⟩ ⟨Hob.out.1.keep hB, Hob.out.2⟩ HRa.out HRb.out Hna.out Hnb.out
   have hl1b : l1.length ≤ 1 := by rw [hl1]; exact HF3.out A B
   rw [← hl1, ← he1] at K3 R1
   have HR1 := hide R1
   clear hl1 he1 R1 HF1 HF2 HF3
   obtain ⟨j1, hj1⟩ : ∃ j, j = l1.length := ⟨_, rfl⟩
   have hj1b : j1 ≤ 1 := by omega
   have Hj1 := hide hj1
   clear hj1 hl1b
   have K3h := hide K3
   clear K3
   go_wp2_with fail
   refine K3h.out.mono ?_
   rintro e w4 ⟨v, rfl, ho, hb⟩
   have hO1 := hO0.next hC3.size ho hb
   have hB4 := chain0 hB3 hb
   have hC4 := chain0 hC3 hb
   obtain ⟨a1, c1, hv⟩ := ow_forms ho
   rw [← Hj1.out] at hv
   subst hv
   clear ho hb hB3 hC3 hO0
   clear K3h
   have K4 := hide (HR1.out w4 hB4)
   go_wp2_with fail
   refine K4.out.mono ?_
   rintro e w5 ⟨v, rfl, ho, hb⟩
   have hO2 := hO1.next hC4.size ho hb
   have hB5 := chain0 hB4 hb
   have hC5 := chain0 hC4 hb
   obtain ⟨a2, c2, hv⟩ := ow_forms ho
   rw [← Hj1.out] at hv
   subst hv
   clear ho hb hB4 hC4 hO1
   clear K4 HR1
   obtain ⟨l2, hl2⟩ : ∃ l, l = (arV fMinus [zeroI] A).1 := ⟨_, rfl⟩
   obtain ⟨e2, he2⟩ : ∃ e, e = (arV fMinus [zeroI] A).2 := ⟨_, rfl⟩
   have K5 := minus_any (some ⟨gx, 0, none⟩) na (na + 12) A w5 (He.out.keep hB5) (lent_ok (Ox3.out.keep hC5).rd Hoa.out) HRa.out Hna.out
   have R2 := fun (W : World) (hB : Below w.heap.size w W) => rminus_any p na c A W ⟨Hoa.out.1.keep hB, Hoa.out.2⟩ HRa.out Hna.out
   have hl2b : l2.length ≤ 1 := by rw [hl2]; exact arV_len _ _ _
   rw [← hl2, ← he2] at K5 R2
   have HR2 := hide R2
   clear hl2 he2 R2
   obtain ⟨j2, hj2⟩ : ∃ j, j = l2.length := ⟨_, rfl⟩
   have hj2b : j2 ≤ 1 := by omega
   have Hj2 := hide hj2
   clear hj2 hl2b
   have K5h := hide K5
   clear K5
   go_wp2_with fail
   refine K5h.out.mono ?_
   rintro e w6 ⟨v, rfl, ho, hb⟩
   have hO3 := hO2.next hC5.size ho hb
   have hB6 := chain0 hB5 hb
   have hC6 := chain0 hC5 hb
   obtain ⟨a3, c3, hv⟩ := ow_forms ho
   rw [← Hj2.out] at hv
   subst hv
   clear ho hb hB5 hC5 hO2
   clear K5h
   have K6 := hide (HR2.out w6 hB6)
   go_wp2_with fail
   refine K6.out.mono ?_
   rintro e w7 ⟨v, rfl, ho, hb⟩
   have hO4 := hO3.next hC6.size ho hb
   have hB7 := chain0 hB6 hb
   have hC7 := chain0 hC6 hb
   obtain ⟨a4, c4, hv⟩ := ow_forms ho
   rw [← Hj2.out] at hv
   subst hv
   clear ho hb hB6 hC6 hO3
   clear K6 HR2
   have K7 := hide (nodes_any (some ⟨gx, 0, none⟩) na (na + 12) A w7 (He.out.keep hB7).t8 (lent_ok (Ox3.out.keep hC7).rd Hoa.out) Hna.out (by omega))
   go_wp2_with fail
   refine K7.out.mono ?_
   rintro e w8 ⟨v, l3, e3, rfl, hnp, hll, ho, hb⟩
   have HNP := hide hnp
   obtain ⟨j3, hj3⟩ : ∃ j, j = l3.length := ⟨_, rfl⟩
   have hj3b : j3 ≤ 300 := by have := Hna.out; omega
   have Hj3 := hide hj3
   clear hnp hll hj3
   have hO5 := hO4.next hC7.size ho hb
   have hB8 := chain0 hB7 hb
   have hC8 := chain0 hC7 hb
   obtain ⟨a5, c5, hv⟩ := ow_forms ho
   rw [← Hj3.out] at hv
   subst hv
   clear ho hb hB7 hC7 hO4
   clear K7
   have K8 := hide (nodes_any (some ⟨gx, 0, none⟩) na (na + 12) A w8 (He.out.keep hB8).t8 (lent_ok (Ox3.out.keep hC8).rd Hoa.out) Hna.out (by omega))
   go_wp2_with fail
   refine K8.out.mono ?_
   rintro e w9 ⟨v, l4, e4, rfl, hnp, _, ho, hb⟩
   obtain ⟨h34, he34⟩ := HNP.out.one hnp
   subst h34 he34
   clear hnp
   have hO6 := hO5.next hC8.size ho hb
   have hB9 := chain0 hB8 hb
   have hC9 := chain0 hC8 hb
   obtain ⟨a6, c6, hv⟩ := ow_forms ho
   rw [← Hj3.out] at hv
   subst hv
   clear ho hb hB8 hC8 hO5
   clear K8
   have K9 := hide (rnodes_any p na c A w9 ⟨Hoa.out.1.keep hB9, Hoa.out.2⟩ Hna.out (by omega))
   go_wp2_with fail
   refine K9.out.mono ?_
   rintro e w10 ⟨v, l4, e4, rfl, hnp, ho, hb⟩
   obtain ⟨h34, he34⟩ := HNP.out.one hnp
   subst h34 he34
   clear hnp
   have hO7 := hO6.next hC9.size ho hb
   have hB10 := chain0 hB9 hb
   have hC10 := chain0 hC9 hb
   obtain ⟨a7, c7, hv⟩ := ow_forms ho
   rw [← Hj3.out] at hv
   subst hv
   clear ho hb hB9 hC9 hO6
   clear K9 HNP
   have HO := hide hO7
   clear hO7
   have K10 := hide (keptI_true p A gx na c w10 (Ox3.out.keep hC10).rd (Hoa.out.1.keep hB10) Hna.out (by omega))
   go_wp2_with fail
   refine K10.out.mono ?_
   rintro e w11 ⟨rfl, hb⟩
   have HO2 := hide (HO.out.keep hb)
   have hB11 := chain0 hB10 hb
   have hC11 := chain0 hC10 hb
   clear hb HO hB10 hC10 K10
   have K11 := hide (keptI_true q B gy nb d w11 (Oy3.out.keep hC11).rd (Hob.out.1.keep hB11) Hnb.out (by omega))
   go_wp2_with fail
   refine K11.out.mono ?_
   rintro e w12 ⟨rfl, hb⟩
   have HO := hide (HO2.out.keep hb)
   have hB12 := chain0 hB11 hb
   have hC12 := chain0 hC11 hb
   clear hb HO2 hB11 hC11 K11
   have K12 := hide (over_any gx na w12 (cont_own Hna.out (Ox3.out.keep hC12)) (by omega))
   go_wp2_with fail
   refine K12.out.mono ?_
   rintro e w13 ⟨rfl, hg⟩
   have HO2 := hide (HO.out.other hg HGX.out)
   have hB13 : Below w.heap.size w w13 := hB12.grown hg hB12.size fun b hb => by injection hb with hb; rw [← hb]; exact HWX.out
   have hs13 : w3.heap.size ≤ w13.heap.size := Nat.le_trans hC12.size hg.size
   have Hs13 := hide hs13
   clear hg HO hB12 hC12 K12 hs13 Ox3 Oy3
   -- what was handed out
   have q1 := hide (HO2.out.rd (x := ⟨w3.heap.size, w4.heap.size, .slice a1 j1 c1, l1⟩) (by simp) rfl)
   have q2 := hide (HO2.out.rd (x := ⟨w4.heap.size, w5.heap.size, .slice a2 j1 c2, l1⟩) (by simp) rfl)
   have q3 := hide (HO2.out.rd (x := ⟨w5.heap.size, w6.heap.size, .slice a3 j2 c3, l2⟩) (by simp) rfl)
   have q4 := hide (HO2.out.rd (x := ⟨w6.heap.size, w7.heap.size, .slice a4 j2 c4, l2⟩) (by simp) rfl)
   have q5 := hide (HO2.out.rd (x := ⟨w7.heap.size, w8.heap.size, .slice a5 j3 c5, l3⟩) (by simp) rfl)
   have q7 := hide (HO2.out.rd (x := ⟨w9.heap.size, w10.heap.size, .slice a7 j3 c7, l3⟩) (by simp) rfl)
   have hD13 := Below.refl w13.heap.size w13
   go_wp2_with fail
   refine (same_any a1 a2 j1 c1 c2 l1 _ q1.out q2.out Hj1.out (by omega)).mono ?_
   rintro e w14 ⟨rfl, hb⟩
   have hD14 := chain0 hD13 hb
   clear hb hD13 q1 q2
   go_wp2_with fail
   refine (same_any a3 a4 j2 c3 c4 l2 _ (q3.out.keep hD14) (q4.out.keep hD14) Hj2.out (by omega)).mono ?_
   rintro e w15 ⟨rfl, hb⟩
   have hD15 := chain0 hD14 hb
   clear hb hD14 q3 q4
   go_wp2_with fail
   refine (same_any a5 a7 j3 c5 c7 l3 _ (q5.out.keep hD15) (q7.out.keep hD15) Hj3.out (by omega)).mono ?_
   rintro e w16 ⟨rfl, hb⟩
   have hD16 := chain0 hD15 hb
   clear hb hD15 q5 q7
   have hO3 := HO2.out.keep hD16
   have hB16 := chain0 hB13 hD16
   have hs16 : w3.heap.size ≤ w16.heap.size := Nat.le_trans Hs13.out hD16.size
   have hal : Below w16.heap.size w16 (w16.alloc (.cells #[.slice a1 j1 c1, .slice a3 j2 c3, .slice a5 j3 c5, .slice a6 j3 c6] 22)) := (Below.refl _ _).alloc (Nat.le_refl _) _
   have hO4 := hO3.keep hal
   have hsub : List.Sublist [(⟨w3.heap.size, w4.heap.size, .slice a1 j1 c1, l1⟩ : Hd), ⟨w5.heap.size, w6.heap.size, .slice a3 j2 c3, l2⟩, ⟨w7.heap.size, w8.heap.size, .slice a5 j3 c5, l3⟩, ⟨w8.heap.size, w9.heap.size, .slice a6 j3 c6, l3⟩] ([] ++ [⟨w3.heap.size, w4.heap.size, .slice a1 j1 c1, l1⟩] ++ [⟨w4.heap.size, w5.heap.size, .slice a2 j1 c2, l1⟩] ++ [⟨w5.heap.size, w6.heap.size, .slice a3 j2 c3, l2⟩] ++ [⟨w6.heap.size, w7.heap.size, .slice a4 j2 c4, l2⟩] ++ [⟨w7.heap.size, w8.heap.size, .slice a5 j3 c5, l3⟩] ++ [⟨w8.heap.size, w9.heap.size, .slice a6 j3 c6, l3⟩] ++ [⟨w9.heap.size, w10.heap.size, .slice a7 j3 c7, l3⟩]) :=
    .cons_cons _ (.cons _ (.cons_cons _ (.cons _ (.cons_cons _ (.cons_cons _ (.cons _ .slnil))))))
   have hap := apart_of (some ⟨w16.heap.size, 0, none⟩) 4 4 [⟨w3.heap.size, w4.heap.size, .slice a1 j1 c1, l1⟩, ⟨w5.heap.size, w6.heap.size, .slice a3 j2 c3, l2⟩, ⟨w7.heap.size, w8.heap.size, .slice a5 j3 c5, l3⟩, ⟨w8.heap.size, w9.heap.size, .slice a6 j3 c6, l3⟩] w3.heap.size _ (Rd.new w16 22 [.slice a1 j1 c1, .slice a3 j2 c3, .slice a5 j3 c5, .slice a6 j3 c6]) rfl (by simp) (by decide) (Nat.le_trans hs16 hal.size)
    (fun x hx => ⟨hO4.own x (hsub.subset hx), by
     have g1 := Hj1.out
     have g2 := Hj2.out
     have g3 := Hj3.out
     simp only [List.mem_cons, List.not_mem_nil, or_false] at hx
     rcases hx with rfl | rfl | rfl | rfl <;> dsimp only <;> omega, hO4.lo x (hsub.subset hx)⟩)
    (hO4.pw.sublist hsub)
   have HAP := hide hap
   have hB17 := chain0 hB16 hal
   clear hap hO3 hO4 HO2 hal hD16 hsub hB13 hB16 hs16 Hs13
   go_wp2_with fail
   refine HAP.out.mono ?_
   rintro e w18 ⟨rfl, hb⟩
   have hB18 : Below w.heap.size w w18 := hB17.trans (hb.mono HW3.out)
   clear hb HAP hB17
   obtain ⟨ev, hv, hev⟩ := (He.out.keep hB18).syn
   go_wp2_with fail
   refine (awake_ok m ev _ (cell_keep hB18 Hm.out) (Hc.out.keep hB18) hv hev).mono ?_
   rintro e w99 ⟨rfl, hb99⟩
   have hB99 := chain0 hB18 hb99
   go_wp2
   go_ret
   exact ⟨rfl, hB99⟩
end Go.Proofs.YtmhnndgnnpondaaGreatDoor
namespace Go.Proofs.YtmhnndgnnpondaaGreatDoor
set_option maxRecDepth 100000
set_option maxHeartbeats 4000000
open Go.RowKit
theorem first_of {W : World} (h : Lib.VarReads Tryz.prog W "unicode/utf8.first" Rows.laid_unicode_utf8_first) : ∀ c, c < 256 → W.cell? ⟨1, c, none⟩ = some (.int .u8 (Lib.firstT c)) := by
 intro c hc
 have e : Rows.laid_unicode_utf8_first = Lib.firstData := by kernel_rfl
 rw [e] at h
 obtain ⟨g, t, cs, fuel, p, hg, ht, hv, hd⟩ := h
 obtain rfl := Option.some.inj ((show Tryz.prog.globalNamed "unicode/utf8.first" = some 1 by kernel_rfl).symm.trans hg)
 obtain rfl := Option.some.inj ((show (Tryz.prog.globals[1]?).map (·.type) = some 238 by kernel_rfl).symm.trans ht)
 have hcs := Lib.cells_of_tab Tryz.underlying238 Tryz.underlying5 (by kernel_rfl) (by kernel_rfl) hd
 rw [World.var?_cell hg hv c, ← Array.getElem?_toList, hcs]
 simp [Lib.firstTab, hc]
theorem accept_of {W : World} (h : Lib.VarReads Tryz.prog W "unicode/utf8.acceptRanges" Rows.laid_unicode_utf8_acceptRanges) : ∀ i, i < 16 → W.cell? ⟨2, 2 * i, none⟩ = some (.int .u8 (Lib.accLo i)) ∧ W.cell? ⟨2, 2 * i + 1, none⟩ = some (.int .u8 (Lib.accHi i)) := by
 intro i hi
 have e : (Rows.laid_unicode_utf8_acceptRanges : DataW Unit) = Lib.acceptData := by kernel_rfl
 rw [e] at h
 obtain ⟨g, t, cs, fuel, p, hg, ht, hv, hd⟩ := h
 obtain rfl := Option.some.inj ((show Tryz.prog.globalNamed "unicode/utf8.acceptRanges" = some 2 by kernel_rfl).symm.trans hg)
 obtain rfl := Option.some.inj ((show (Tryz.prog.globals[2]?).map (·.type) = some 241 by kernel_rfl).symm.trans ht)
 obtain ⟨fuel', d, q, hdi, he⟩ := Lib.array_elem Tryz.underlying241 hd i hi
 simp only [List.getElem?_map, List.getElem?_range hi, Option.map_some, Option.some.injEq] at hdi
 subst hdi
 have c2 : Tryz.prog.cellsOf 240 = 2 := by kernel_rfl
 have c1 : Tryz.prog.cellsOf 5 = 1 := by kernel_rfl
 rw [c2] at he
 have hcs := Lib.ints_of_struct Tryz.underlying240 (fun j f hj => by
  match j, hj with
  | 0, hj => simp at hj; subst hj; exact ⟨Tryz.underlying5, rfl, c1⟩
  | 1, hj => simp at hj; subst hj; exact ⟨Tryz.underlying5, rfl, c1⟩
  | j + 2, hj => simp at hj) (by rw [c2]; rfl) he
 have e0 := congrArg (·[0]?) hcs
 have e1 := congrArg (·[1]?) hcs
 simp only [List.getElem?_take, List.getElem?_drop] at e0 e1
 constructor
 ·rw [World.var?_cell hg hv (2 * i), ← Array.getElem?_toList]
  simpa [Nat.mul_comm] using e0
 ·rw [World.var?_cell hg hv (2 * i + 1), ← Array.getElem?_toList]
  simpa [Nat.mul_comm] using e1
theorem pow_of {W : World} (h : Lib.VarReads Tryz.prog W "internal/strconv.uint64pow10" Rows.laid_internal_strconv_uint64pow10) : Lib.TabIs Tryz.prog W "internal/strconv.uint64pow10" .u64 Lib.pow10Tab := by
 have e : (Rows.laid_internal_strconv_uint64pow10 : DataW Unit) = Lib.tabData .u64 Lib.pow10Tab := by kernel_rfl
 rw [e] at h
 obtain ⟨g, t, cs, fuel, p, hg, ht, hv, hd⟩ := h
 obtain rfl := Option.some.inj ((show Tryz.prog.globalNamed "internal/strconv.uint64pow10" = some 4 by kernel_rfl).symm.trans hg)
 obtain rfl := Option.some.inj ((show (Tryz.prog.globals[4]?).map (·.type) = some 271 by kernel_rfl).symm.trans ht)
 have hcs := Lib.cells_of_tab Tryz.underlying271 Tryz.underlying162 (by kernel_rfl) (by kernel_rfl) hd
 unfold Lib.TabIs
 rw [hv]
 congr 1
 exact Array.toList_inj.1 (by rw [hcs])
theorem drop_take (L : List Value) (k : Nat) : L.drop k = (L.drop k).take 3 ++ L.drop (k + 3) := by
 have h : L.drop (k + 3) = (L.drop k).drop 3 := by rw [List.drop_drop]
 rw [h]; exact (List.take_append_drop 3 _).symm
theorem six_of {L a0 a1 a2 a3 a4 a5 : List Value} (h : L.length = 18) (h0 : (L.drop (0 * 3)).take 3 = a0) (h1 : (L.drop (1 * 3)).take 3 = a1) (h2 : (L.drop (2 * 3)).take 3 = a2) (h3 : (L.drop (3 * 3)).take 3 = a3) (h4 : (L.drop (4 * 3)).take 3 = a4) (h5 : (L.drop (5 * 3)).take 3 = a5) :
  L = a0 ++ (a1 ++ (a2 ++ (a3 ++ (a4 ++ a5)))) := by
 have e : L.drop 18 = [] := List.drop_eq_nil_of_le (by omega)
 have s0 := drop_take L 0
 have s1 := drop_take L 3
 have s2 := drop_take L 6
 have s3 := drop_take L 9
 have s4 := drop_take L 12
 have s5 := drop_take L 15
 simp only [Nat.reduceMul, Nat.reduceAdd, Nat.zero_add, Nat.zero_mul] at *
 rw [h0] at s0; rw [h1] at s1; rw [h2] at s2; rw [h3] at s3; rw [h4] at s4; rw [h5, e, List.append_nil] at s5
 rw [s5] at s4; rw [s4] at s3; rw [s3] at s2; rw [s2] at s1; rw [s1] at s0
 simpa using s0
section
variable {H : Type} {enc : TypeId × Value → H} {w : World} {base : Nat} {sp : Nat → Bool} {held : Bool}
theorem cnt_cells {fuel : Nat} {cs : List Value} {a b : Int} {bs : List UInt8} {p : List MemPlace} (h : DataW.trod enc Tryz.prog w base sp held fuel 100 cs = some (.agg [.lit (.int .i64 a), .lit (.int .i64 b), .lit (.string bs)], p)) :
  cs = [.int .i64 a, .int .i64 b, .string ⟨bs.toArray⟩] := by
 obtain ⟨xs, n, _, hx, hl, hn, hf⟩ := DataW.trod_struct Tryz.underlying100 h
 have hl3 : cs.length = 3 := hl.trans (by kernel_rfl)
 have f0 : DataW.trod enc Tryz.prog w base sp held n 3 (List.take (Tryz.prog.cellsOf 3) (List.drop 0 cs)) = xs[0]? := hf 0 _ rfl
 have f1 : DataW.trod enc Tryz.prog w base sp held n 3 (List.take (Tryz.prog.cellsOf 3) (List.drop 1 cs)) = xs[1]? := hf 1 _ rfl
 have f2 : DataW.trod enc Tryz.prog w base sp held n 9 (List.take (Tryz.prog.cellsOf 9) (List.drop 2 cs)) = xs[2]? := hf 2 _ rfl
 have c1 : Tryz.prog.cellsOf 3 = 1 := by kernel_rfl
 have c2 : Tryz.prog.cellsOf 9 = 1 := by kernel_rfl
 obtain ⟨x0, x1, x2, rfl⟩ : ∃ x0 x1 x2, cs = [x0, x1, x2] := by
  match cs, hl3 with
  | [x0, x1, x2], _ => exact ⟨_, _, _, rfl⟩
 obtain ⟨y0, y1, y2, rfl⟩ : ∃ y0 y1 y2, xs = [y0, y1, y2] := by
  match xs, hn with
  | [y0, y1, y2], _ => exact ⟨_, _, _, rfl⟩
 simp only [c1, c2, List.drop_zero, List.drop_succ_cons, List.take_succ_cons, List.take_zero, List.getElem?_cons_zero, List.getElem?_cons_succ] at f0 f1 f2
 obtain ⟨n0, e0, g0, _⟩ := DataW.trod_int Tryz.underlying3 f0
 obtain ⟨n1, e1, g1, _⟩ := DataW.trod_int Tryz.underlying3 f1
 obtain ⟨s2, e2, g2, _⟩ := DataW.trod_string Tryz.underlying9 f2
 subst g0 g1 g2
 simp only [List.map_cons, List.map_nil, Prod.mk.injEq, DataW.agg.injEq, List.cons.injEq, DataW.lit.injEq, Lit.int.injEq, Lit.string.injEq] at hx
 obtain ⟨⟨⟨_, r0⟩, ⟨_, r1⟩, r2, _⟩, _⟩ := hx
 simp only [List.cons.injEq, and_true] at e0 e1 e2
 subst r0 r1 r2 e0 e1 e2
 rfl
end
theorem counts_of {W : World} (h : Lib.VarReads Tryz.prog W "parchment/value.counts" Rows.laid_parchment_value_counts) : Counts W := by
 obtain ⟨g, t, cs, fuel, p, hg, ht, hv, hd⟩ := h
 obtain rfl := Option.some.inj ((show Tryz.prog.globalNamed "parchment/value.counts" = some 0 by kernel_rfl).symm.trans hg)
 obtain rfl := Option.some.inj ((show (Tryz.prog.globals[0]?).map (·.type) = some 101 by kernel_rfl).symm.trans ht)
 obtain ⟨xs, m, _, hx, hl, hn, hel⟩ := DataW.trod_array Tryz.underlying101 hd
 have c3 : Tryz.prog.cellsOf 100 = 3 := by kernel_rfl
 have c18 : cs.toList.length = 18 := hl.trans (by kernel_rfl)
 rw [c3] at hel
 have e0 := hel 0 (by decide)
 have e1 := hel 1 (by decide)
 have e2 := hel 2 (by decide)
 have e3 := hel 3 (by decide)
 have e4 := hel 4 (by decide)
 have e5 := hel 5 (by decide)
 have hL : cs.toList = cntC := by
  obtain ⟨y0, q0, y1, q1, y2, q2, y3, q3, y4, q4, y5, q5, rfl⟩ : ∃ y0 q0 y1 q1 y2 q2 y3 q3 y4 q4 y5 q5, xs = [(y0, q0), (y1, q1), (y2, q2), (y3, q3), (y4, q4), (y5, q5)] := by
   match xs, hn with
   | [⟨y0, q0⟩, ⟨y1, q1⟩, ⟨y2, q2⟩, ⟨y3, q3⟩, ⟨y4, q4⟩, ⟨y5, q5⟩], _ => exact ⟨_, _, _, _, _, _, _, _, _, _, _, _, rfl⟩
  have hx1 := congrArg Prod.fst hx
  unfold Rows.laid_parchment_value_counts at hx1
  simp only [List.map_cons, List.map_nil, DataW.agg.injEq, List.cons.injEq] at hx1
  obtain ⟨r0, r1, r2, r3, r4, r5, _⟩ := hx1
  simp only [List.getElem?_cons_zero, List.getElem?_cons_succ] at e0 e1 e2 e3 e4 e5
  rw [← r0] at e0; rw [← r1] at e1; rw [← r2] at e2; rw [← r3] at e3; rw [← r4] at e4; rw [← r5] at e5
  exact six_of c18 (cnt_cells e0) (cnt_cells e1) (cnt_cells e2) (cnt_cells e3) (cnt_cells e4) (cnt_cells e5)
 intro j v hj
 rw [World.var?_cell hg hv j, ← Array.getElem?_toList, hL]
 exact hj
theorem errSyntax_of {W : World} (h : Lib.VarReads Tryz.prog W "strconv.ErrSyntax" Rows.laid_strconv_ErrSyntax) : ∃ ev, W.cell? ⟨5, 0, none⟩ = some ev ∧ (ev = .nilIface ∨ ∃ te pe, ev = .iface te pe) := by
 obtain ⟨g, t, cs, fuel, p, hg, ht, hv, hd⟩ := h
 obtain rfl := Option.some.inj ((show Tryz.prog.globalNamed "strconv.ErrSyntax" = some 5 by kernel_rfl).symm.trans hg)
 obtain rfl := Option.some.inj ((show (Tryz.prog.globals[5]?).map (·.type) = some 148 by kernel_rfl).symm.trans ht)
 obtain ⟨f', u, v, hcs, _, _⟩ := iface_of_trod Tryz.underlying148 hd
 refine ⟨.iface u v, ?_, .inr ⟨u, v, rfl⟩⟩
 rw [World.var?_cell hg hv 0, ← Array.getElem?_toList, hcs]
 rfl
theorem errRange_of {W : World} (h : Lib.VarReads Tryz.prog W "strconv.ErrRange" Rows.laid_strconv_ErrRange) : ∃ ev, W.cell? ⟨6, 0, none⟩ = some ev ∧ (ev = .nilIface ∨ ∃ te pe, ev = .iface te pe) := by
 obtain ⟨g, t, cs, fuel, p, hg, ht, hv, hd⟩ := h
 obtain rfl := Option.some.inj ((show Tryz.prog.globalNamed "strconv.ErrRange" = some 6 by kernel_rfl).symm.trans hg)
 obtain rfl := Option.some.inj ((show (Tryz.prog.globals[6]?).map (·.type) = some 148 by kernel_rfl).symm.trans ht)
 obtain ⟨f', u, v, hcs, _, _⟩ := iface_of_trod Tryz.underlying148 hd
 refine ⟨.iface u v, ?_, .inr ⟨u, v, rfl⟩⟩
 rw [World.var?_cell hg hv 0, ← Array.getElem?_toList, hcs]
 rfl
theorem maxLen_of {W : World} (h : W.ShapedOpen Tryz.prog) : ∃ m, W.cell? ⟨3, 0, none⟩ = some (.int .i64 m) :=
 Go.Proofs.cell_of_shapedOpen_int (zero := #[.int .i64 0]) (t := 3) h (of_decide_eq_true (by kernel_rfl)) (by kernel_rfl) rfl (by kernel_rfl) (by kernel_rfl) Tryz.underlying3
theorem env_of {laid : List (String × DataW Unit)} {W : World} (h : laidMetH Tryz.prog laid W) (hp : laidMetH Tryz.prog laid W = laidMet Tryz.prog laid W) (m1 : ("unicode/utf8.first", Rows.laid_unicode_utf8_first) ∈ laid) (m2 : ("unicode/utf8.acceptRanges", Rows.laid_unicode_utf8_acceptRanges) ∈ laid) (m3 : ("internal/strconv.uint64pow10", Rows.laid_internal_strconv_uint64pow10) ∈ laid) (m4 : ("strconv.ErrSyntax", Rows.laid_strconv_ErrSyntax) ∈ laid) (m5 : ("strconv.ErrRange", Rows.laid_strconv_ErrRange) ∈ laid) (m6 : ("parchment/value.counts", Rows.laid_parchment_value_counts) ∈ laid) : Env W ∧ Counts W := by
 rw [hp] at h
 exact ⟨⟨⟨first_of (Lib.laidMet.reads h m1), accept_of (Lib.laidMet.reads h m2)⟩, pow_of (Lib.laidMet.reads h m3), errSyntax_of (Lib.laidMet.reads h m4), errRange_of (Lib.laidMet.reads h m5)⟩, counts_of (Lib.laidMet.reads h m6)⟩
end Go.Proofs.YtmhnndgnnpondaaGreatDoor
