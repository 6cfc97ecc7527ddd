/- awake: the chapter's examples. -/
import Derived.Test.YtmnmnnocgimcpaaGreatDoorWo
import Derived.Test.YtmnmnnocgimcpaaGreatDoorWc
import Derived.Test.YtmnmnnocgimcpaaGreatDoorVk
namespace Go.Proofs.YtmnmnnocgimcpaaGreatDoor
open Go.RowKit
theorem isNum_four : IsNum 3 0 ⟨#[52]⟩ 0 4 := fun w => number_yes 3 0 0 ⟨#[52]⟩ 4 w (by decide) (by decide) (by decide) (by kernel_rfl) (by decide)
theorem isNum_five : IsNum 1 0 ⟨#[53]⟩ 1 5 := fun w => number_yes 1 0 1 ⟨#[53]⟩ 5 w (by decide) (by decide) (by decide) (by kernel_rfl) (by decide)
theorem ascii_4 : Ascii ⟨#[52]⟩ := by unfold Ascii; decide
theorem ascii_5 : Ascii ⟨#[53]⟩ := by unfold Ascii; decide
theorem R64_lit (x : Int) (h : fit x = true) : R64 x := (fit_iff x).1 h
theorem awake_div : Made ⟨#[100, 105, 118]⟩ (-7) 2 (-3) 0 := by
  have := made_div (-7) 2 (R64_lit _ (by decide)) (R64_lit _ (by decide)) (by decide)
  rwa [show mkV (fit (Int.tdiv (-7) 2)) (Int.tdiv (-7) 2) = -3 by kernel_rfl, show erV (fit (Int.tdiv (-7) 2)) = 0 by kernel_rfl] at this
theorem awake_div1 : Made ⟨#[100, 105, 118]⟩ 1 1 1 0 := by
  have := made_div 1 1 (R64_lit _ (by decide)) (R64_lit _ (by decide)) (by decide)
  rwa [show mkV (fit (Int.tdiv 1 1)) (Int.tdiv 1 1) = 1 by kernel_rfl, show erV (fit (Int.tdiv 1 1)) = 0 by kernel_rfl] at this
theorem awake_plus : Made ⟨#[43]⟩ 4 5 9 0 := by
  have := made_plus 4 5 (R64_lit _ (by decide)) (R64_lit _ (by decide))
  rwa [show mkV (fit (4 + 5)) (4 + 5) = 9 by kernel_rfl, show erV (fit (4 + 5)) = 0 by kernel_rfl] at this
theorem awake_plus1 : Made ⟨#[43]⟩ 1 1 2 0 := by
  have := made_plus 1 1 (R64_lit _ (by decide)) (R64_lit _ (by decide))
  rwa [show mkV (fit (1 + 1)) (1 + 1) = 2 by kernel_rfl, show erV (fit (1 + 1)) = 0 by kernel_rfl] at this
set_option maxRecDepth 100000 in
set_option maxHeartbeats 8000000 in
theorem awake_ok (m : Int) (ev : Value) (w : World) (hm : w.cell? ⟨1, 0, none⟩ = some (.int .i64 m)) (hc : Counts w) (hv : w.cell? ⟨5, 0, none⟩ = some ev) (hev : ev = .nilIface ∨ ∃ te pe, ev = .iface te pe) :
    Calls Tryz.prog 6 #[] w fun e w' => e = .returned (.bool true) ∧ Below w.heap.size w w' := by
  have Hm := hide hm
  have Hc := hide hc
  have Hv := hide hv
  have Hev := hide hev
  clear hm hc hv hev
  have hB0 := Below.refl w.heap.size w
  go_enter Tryz.func6, Tryz.ntmps6
  go_wp2_with fail
  refine (lwhole_any 1 _).mono ?_
  rintro e w1 ⟨rfl, hb1⟩
  have hB1 : Below w.heap.size w w1 := by first | exact chain0 hB0 hb1 | exact chain1 hB0 hb1 | exact chain2 hB0 hb1
  go_wp2_with fail
  refine (lnode_any 3 ⟨#[50]⟩ _).mono ?_
  rintro e w2 ⟨rfl, hb2⟩
  have hB2 : Below w.heap.size w w2 := by first | exact chain0 hB1 hb2 | exact chain1 hB1 hb2 | exact chain2 hB1 hb2
  clear hb1 hb2 hB1
  go_wp2_with fail
  refine (lrow_any _ _ _ _).mono ?_
  rintro e wx ⟨rfl, rfl⟩
  go_wp2_with fail
  refine (lstr_any ⟨#[50]⟩ _).mono ?_
  rintro e w3 ⟨rfl, hb3⟩
  have hB3 : Below w.heap.size w w3 := by first | exact chain0 hB2 hb3 | exact chain1 hB2 hb3 | exact chain2 hB2 hb3
  have R3 := hide ((RdI.new w2 37 xEq1).keep hb3)
  clear hb3 hB2
  go_wp2_with fail
  refine (lrow_any _ _ _ _).mono ?_
  rintro e wx ⟨rfl, rfl⟩
  go_wp2_with fail
  refine (compare_eq w2.heap.size w3.heap.size 2 1 _ (R3.out.alloc _) (RdI.new w3 37 xEq2)).mono ?_
  rintro e w4 ⟨rfl, hb4⟩
  have hB4 : Below w.heap.size w w4 := by first | exact chain0 hB3 hb4 | exact chain1 hB3 hb4 | exact chain2 hB3 hb4
  clear hb4 hB3 R3
  go_wp2_with fail
  refine (lwhole_any 1 _).mono ?_
  rintro e w5 ⟨rfl, hb5⟩
  have hB5 : Below w.heap.size w w5 := by first | exact chain0 hB4 hb5 | exact chain1 hB4 hb5 | exact chain2 hB4 hb5
  clear hb5 hB4
  go_wp2_with fail
  refine (lrow_any _ _ _ _).mono ?_
  rintro e wx ⟨rfl, rfl⟩
  go_wp2_with fail
  refine (lstr_any ⟨#[120]⟩ _).mono ?_
  rintro e w6 ⟨rfl, hb6⟩
  have hB6 : Below w.heap.size w w6 := by first | exact chain0 hB5 hb6 | exact chain1 hB5 hb6 | exact chain2 hB5 hb6
  have R6 := hide ((RdI.new w5 37 xOne).keep hb6)
  clear hb6 hB5
  go_wp2_with fail
  refine (lrow_any _ _ _ _).mono ?_
  rintro e wx ⟨rfl, rfl⟩
  go_wp2_with fail
  refine (compare_lt w5.heap.size w6.heap.size 1 1 ev _ (cell_keep (hB6.alloc hB6.size _) Hv.out) Hev.out (R6.out.alloc _) (RdI.new w6 37 xLt2)).mono ?_
  rintro e w7 ⟨rfl, hb7⟩
  have hB7 : Below w.heap.size w w7 := by first | exact chain0 hB6 hb7 | exact chain1 hB6 hb7 | exact chain2 hB6 hb7
  clear hb7 hB6 R6
  go_wp2_with fail
  refine (lstr_any motorS _).mono ?_
  rintro e w8 ⟨rfl, hb8⟩
  have hB8 : Below w.heap.size w w8 := by first | exact chain0 hB7 hb8 | exact chain1 hB7 hb8 | exact chain2 hB7 hb8
  clear hb8 hB7
  go_wp2_with fail
  refine (lrow_any _ _ _ _).mono ?_
  rintro e wx ⟨rfl, rfl⟩
  go_wp2_with fail
  refine (lwhole_any 2 _).mono ?_
  rintro e w9 ⟨rfl, hb9⟩
  have hB9 : Below w.heap.size w w9 := by first | exact chain0 hB8 hb9 | exact chain1 hB8 hb9 | exact chain2 hB8 hb9
  have R9 := hide ((RdI.new w8 37 [⟨3, 0, motorS, 0⟩]).keep hb9)
  clear hB8
  go_wp2_with fail
  refine (lrow_any _ _ _ _).mono ?_
  rintro e wx ⟨rfl, rfl⟩
  go_wp2_with fail
  refine (lwhole_any 3 _).mono ?_
  rintro e w10 ⟨rfl, hb10⟩
  have hB10 : Below w.heap.size w w10 := by first | exact chain0 hB9 hb10 | exact chain1 hB9 hb10 | exact chain2 hB9 hb10
  have R10 := hide ((R9.out.alloc (.cells (icells [⟨2, 2, ⟨#[]⟩, 0⟩]).toArray 37)).keep hb10)
  have S10 := hide ((RdI.new w9 37 [⟨2, 2, ⟨#[]⟩, 0⟩]).keep hb10)
  clear hb9 hb10 hB9 R9
  go_wp2_with fail
  refine (lrow_any _ _ _ _).mono ?_
  rintro e wx ⟨rfl, rfl⟩
  have hr11 : Rd ((w10.alloc (.cells (icells [⟨2, 3, ⟨#[]⟩, 0⟩]).toArray 37)).alloc (.cells #[.slice (some ⟨w8.heap.size, 0, none⟩) 1 1, .slice (some ⟨w9.heap.size, 0, none⟩) 1 1, .slice (some ⟨w10.heap.size, 0, none⟩) 1 1] 25)) (some ⟨w10.heap.size + 1, 0, none⟩) [.slice (some ⟨w8.heap.size, 0, none⟩) 1 1, .slice (some ⟨w9.heap.size, 0, none⟩) 1 1, .slice (some ⟨w10.heap.size, 0, none⟩) 1 1] := by
    have := Rd.new (w10.alloc (.cells (icells [⟨2, 3, ⟨#[]⟩, 0⟩]).toArray 37)) 25 [.slice (some ⟨w8.heap.size, 0, none⟩) 1 1, .slice (some ⟨w9.heap.size, 0, none⟩) 1 1, .slice (some ⟨w10.heap.size, 0, none⟩) 1 1]
    rwa [show (w10.alloc (.cells (icells [⟨2, 3, ⟨#[]⟩, 0⟩]).toArray 37)).heap.size = w10.heap.size + 1 by simp] at this
  have Hr11 := hide hr11
  clear hr11
  have hBz : Below w.heap.size w ((w10.alloc (.cells (icells [⟨2, 3, ⟨#[]⟩, 0⟩]).toArray 37)).alloc (.cells #[.slice (some ⟨w8.heap.size, 0, none⟩) 1 1, .slice (some ⟨w9.heap.size, 0, none⟩) 1 1, .slice (some ⟨w10.heap.size, 0, none⟩) 1 1] 25)) := by
    have h1 := hB10.alloc hB10.size (.cells (icells [⟨2, 3, ⟨#[]⟩, 0⟩]).toArray 37)
    exact h1.alloc h1.size _
  go_wp2_with fail
  refine (call_sub m (w10.heap.size + 1) 3 w8.heap.size w9.heap.size w10.heap.size 1 1 1 _ (cell_keep hBz Hm.out) (Hc.out.keep hBz) Hr11.out ((R10.out.alloc _).alloc _) ((S10.out.alloc _).alloc _) ((RdI.new w10 37 [⟨2, 3, ⟨#[]⟩, 0⟩]).alloc _)).mono ?_
  rintro e w11 ⟨g, rfl, hg, hr, hb11⟩
  have hB11 := chain0 hBz hb11
  have Rg := hide hr
  clear hg hr hb11 hBz Hr11 R10 S10 hB10
  go_wp2_with fail
  refine (lnode_any 0 ⟨#[]⟩ _).mono ?_
  rintro e w12 ⟨rfl, hb12⟩
  have hB12 : Below w.heap.size w w12 := by first | exact chain0 hB11 hb12 | exact chain1 hB11 hb12 | exact chain2 hB11 hb12
  go_wp2_with fail
  refine (lwhole_any 1 _).mono ?_
  rintro e w13 ⟨rfl, hb13⟩
  have hB13 : Below w.heap.size w w13 := by first | exact chain0 hB12 hb13 | exact chain1 hB12 hb13 | exact chain2 hB12 hb13
  have Rg2 := hide ((Rg.out.keep hb12).keep hb13)
  clear hb12 hb13 Rg hB12 hB11
  go_wp2_with fail
  refine (lrow_any _ _ _ _).mono ?_
  rintro e wx ⟨rfl, rfl⟩
  go_wp2_with fail
  refine (truth_node w13.heap.size 2 _ (RdI.new w13 37 xTr)).mono ?_
  rintro e w14 ⟨rfl, hb14⟩
  have hB14 : Below w.heap.size w w14 := by first | exact chain0 hB13 hb14 | exact chain1 hB13 hb14 | exact chain2 hB13 hb14
  have Rg := hide ((Rg2.out.alloc (.cells (icells xTr).toArray 37)).keep hb14)
  clear hb14 hB13 Rg2
  go_wp2_with fail
  refine (lstr_any ⟨#[111, 116, 111]⟩ _).mono ?_
  rintro e w15 ⟨rfl, hb15⟩
  have hB15 : Below w.heap.size w w15 := by first | exact chain0 hB14 hb15 | exact chain1 hB14 hb15 | exact chain2 hB14 hb15
  have Rg2 := hide (Rg.out.keep hb15)
  clear hb15 hB14 Rg
  go_wp2_with fail
  refine (lrow_any _ _ _ _).mono ?_
  rintro e wx ⟨rfl, rfl⟩
  go_wp2_with fail
  refine (same_one g w15.heap.size 1 1 3 0 0 ⟨#[111, 116, 111]⟩ _ (Rg2.out.alloc _) (RdI.new w15 37 [⟨3, 0, ⟨#[111, 116, 111]⟩, 0⟩])).mono ?_
  rintro e w16 ⟨rfl, hb16⟩
  have hB16 : Below w.heap.size w w16 := by first | exact chain0 hB15 hb16 | exact chain1 hB15 hb16 | exact chain2 hB15 hb16
  clear hb16 hB15 Rg2
  go_wp2_with fail
  refine (lwhole_any (-7) _).mono ?_
  rintro e w17 ⟨rfl, hb17⟩
  have hB17 : Below w.heap.size w w17 := by first | exact chain0 hB16 hb17 | exact chain1 hB16 hb17 | exact chain2 hB16 hb17
  clear hb17 hB16
  go_wp2_with fail
  refine (lwhole_any 2 _).mono ?_
  rintro e w18 ⟨rfl, hb18⟩
  have hB18 : Below w.heap.size w w18 := by first | exact chain0 hB17 hb18 | exact chain1 hB17 hb18 | exact chain2 hB17 hb18
  clear hb18 hB17
  go_wp2_with fail
  refine (is_any ⟨#[100, 105, 118]⟩ 2 2 (-7) 2 0 0 (-7) 2 1 (-3) ⟨#[]⟩ ⟨#[]⟩ _ (.int (-7)) (.int 2) (isNum_int (-7)) (isNum_int 2) awake_div1 awake_div).mono ?_
  rintro e w19 ⟨rfl, hb19⟩
  have hB19 : Below w.heap.size w w19 := by first | exact chain0 hB18 hb19 | exact chain1 hB18 hb19 | exact chain2 hB18 hb19
  clear hb19 hB18
  go_wp2_with fail
  refine (lstr_any ⟨#[52]⟩ _).mono ?_
  rintro e w20 ⟨rfl, hb20⟩
  have hB20 : Below w.heap.size w w20 := by first | exact chain0 hB19 hb20 | exact chain1 hB19 hb20 | exact chain2 hB19 hb20
  clear hb20 hB19
  go_wp2_with fail
  refine (lnode_any 1 ⟨#[53]⟩ _).mono ?_
  rintro e w21 ⟨rfl, hb21⟩
  have hB21 : Below w.heap.size w w21 := by first | exact chain0 hB20 hb21 | exact chain1 hB20 hb21 | exact chain2 hB20 hb21
  clear hb21 hB20
  go_wp2_with fail
  refine (is_any ⟨#[43]⟩ 3 1 0 0 0 1 4 5 2 9 ⟨#[52]⟩ ⟨#[53]⟩ _ (.str _ ascii_4 le8_one) (.node _ 1 ascii_5 le8_one) isNum_four isNum_five awake_plus1 awake_plus).mono ?_
  rintro e w22 ⟨rfl, hb22⟩
  have hB22 : Below w.heap.size w w22 := by first | exact chain0 hB21 hb22 | exact chain1 hB21 hb22 | exact chain2 hB21 hb22
  clear hb22 hB21
  go_wp2
  go_ret
  exact ⟨rfl, hB22⟩
end Go.Proofs.YtmnmnnocgimcpaaGreatDoor
