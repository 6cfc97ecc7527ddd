/- value.Truth at what awake asks. awake: the chapter's examples. What the rows of the Value laws list: what the walks ask of the world. -/
import Derived.Test.YtmhnndgnnpondaaGreatDoorC13
import Derived.Test.YtmhnndgnnpondaaGreatDoorC25
import Derived.Test.YtmhnndgnnpondaaGreatDoorRows
import Derived.Test.YtmhnndgnnpondaaGreatDoorC14
import Derived.Lib.LaidU8
import Derived.LaidLaws
import Derived.Lay
import Derived.SevenTiedAt
import Derived.LaidOnce
import Derived.LaidMore
import Derived.MakeChecks
import Derived.WalkKit
import Derived.ProofKit
import Derived.OpenShut
import Derived.Stop.Joined
namespace Go.Proofs.YtmhnndgnnpondaaGreatDoor
open Go.RowKit
def xTr : List It := [⟨1, 0, ⟨#[]⟩, 0⟩, ⟨2, 1, ⟨#[]⟩, 0⟩]
set_option maxRecDepth 100000 in
set_option maxHeartbeats 4000000 in
theorem truth_node (g1 c1 : Nat) (w : World) (h1 : RdI w (some ⟨g1, 0, none⟩) xTr) :
  Calls Tryz.prog 24 #[.slice (some ⟨g1, 0, none⟩) 2 c1] w fun e w' => e = .returned (.tuple #[.bool true, .int .i64 0]) ∧ Below w.heap.size w w' := by
 have k1 : ∀ y ∈ xTr, Good y := by
  intro y hy
  simp only [xTr, List.mem_cons, List.not_mem_nil, or_false] at hy
  rcases hy with rfl | rfl
  ·exact .node ⟨#[]⟩ 0 ascii_nil zero_le8
  ·exact .int 1
 have H1 := hide h1
 clear h1
 have i10 := ix_item0 g1 2 c1 (by decide)
 go_enter Tryz.func24, Tryz.ntmps24
 go_wp2_with fail
 refine (right_one g1 c1 xTr w H1.out k1 (by decide) 2 rfl).mono ?_
 rintro e w1 ⟨rfl, hb1⟩
 obtain ⟨a_0, a_1, a_2, a_3⟩ := (H1.out.keep hb1).z0 _ rfl
 go_wp2
 go_ret2
 exact ⟨rfl, hb1⟩
end Go.Proofs.YtmhnndgnnpondaaGreatDoor
namespace Go.Proofs.YtmhnndgnnpondaaGreatDoor
open Go.RowKit
theorem isNum_four : IsNum 3 0 ⟨#[52]⟩ 0 4 := fun w => number_yes 3 0 0 ⟨#[52]⟩ 4 w (by decide) (by decide) (by decide) (by kernel_rfl) (by decide)
theorem isNum_five : IsNum 1 0 ⟨#[53]⟩ 1 5 := fun w => number_yes 1 0 1 ⟨#[53]⟩ 5 w (by decide) (by decide) (by decide) (by kernel_rfl) (by decide)
theorem ascii_4 : Ascii ⟨#[52]⟩ := by unfold Ascii; decide
theorem ascii_5 : Ascii ⟨#[53]⟩ := by unfold Ascii; decide
theorem R64_lit (x : Int) (h : fit x = true) : R64 x := (fit_iff x).1 h
theorem awake_div : Made ⟨#[100, 105, 118]⟩ (-7) 2 (-3) 0 := by
 have := made_div (-7) 2 (R64_lit _ (by decide)) (R64_lit _ (by decide)) (by decide)
 rwa [show mkV (fit (Int.tdiv (-7) 2)) (Int.tdiv (-7) 2) = -3 by kernel_rfl, show erV (fit (Int.tdiv (-7) 2)) = 0 by kernel_rfl] at this
theorem awake_div1 : Made ⟨#[100, 105, 118]⟩ 1 1 1 0 := by
 have := made_div 1 1 (R64_lit _ (by decide)) (R64_lit _ (by decide)) (by decide)
 rwa [show mkV (fit (Int.tdiv 1 1)) (Int.tdiv 1 1) = 1 by kernel_rfl, show erV (fit (Int.tdiv 1 1)) = 0 by kernel_rfl] at this
theorem awake_plus : Made ⟨#[43]⟩ 4 5 9 0 := by
 have := made_plus 4 5 (R64_lit _ (by decide)) (R64_lit _ (by decide))
 rwa [show mkV (fit (4 + 5)) (4 + 5) = 9 by kernel_rfl, show erV (fit (4 + 5)) = 0 by kernel_rfl] at this
theorem awake_plus1 : Made ⟨#[43]⟩ 1 1 2 0 := by
 have := made_plus 1 1 (R64_lit _ (by decide)) (R64_lit _ (by decide))
 rwa [show mkV (fit (1 + 1)) (1 + 1) = 2 by kernel_rfl, show erV (fit (1 + 1)) = 0 by kernel_rfl] at this
set_option maxRecDepth 100000 in
set_option maxHeartbeats 8000000 in
theorem awake_ok (m : Int) (ev : Value) (w : World) (hm : w.cell? ⟨3, 0, none⟩ = some (.int .i64 m)) (hc : Counts w) (hv : w.cell? ⟨5, 0, none⟩ = some ev) (hev : ev = .nilIface ∨ ∃ te pe, ev = .iface te pe) :
  Calls Tryz.prog 5 #[] w fun e w' => e = .returned (.bool true) ∧ Below w.heap.size w w' := by
 have Hm := hide hm
 have Hc := hide hc
 have Hv := hide hv
 have Hev := hide hev
 clear hm hc hv hev
 have hB0 := Below.refl w.heap.size w
 go_enter Tryz.func5, Tryz.ntmps5
 go_wp2_with fail
 refine (lwhole_any 1 _).mono ?_
 rintro e w1 ⟨rfl, hb1⟩
 have hB1 : Below w.heap.size w w1 := by first | exact chain0 hB0 hb1 | exact chain1 hB0 hb1 | exact chain2 hB0 hb1
 go_wp2_with fail
 refine (lnode_any 3 ⟨#[50]⟩ _).mono ?_
 rintro e w2 ⟨rfl, hb2⟩
 have hB2 : Below w.heap.size w w2 := by first | exact chain0 hB1 hb2 | exact chain1 hB1 hb2 | exact chain2 hB1 hb2
 clear hb1 hb2 hB1
 go_wp2_with fail
 refine (lrow_any _ _ _ _).mono ?_
 rintro e wx ⟨rfl, rfl⟩
 go_wp2_with fail
 refine (lstr_any ⟨#[50]⟩ _).mono ?_
 rintro e w3 ⟨rfl, hb3⟩
 have hB3 : Below w.heap.size w w3 := by first | exact chain0 hB2 hb3 | exact chain1 hB2 hb3 | exact chain2 hB2 hb3
 have R3 := hide ((RdI.new w2 31 xEq1).keep hb3)
 clear hb3 hB2
 go_wp2_with fail
 refine (lrow_any _ _ _ _).mono ?_
 rintro e wx ⟨rfl, rfl⟩
 go_wp2_with fail
 refine (compare_eq w2.heap.size w3.heap.size 2 1 _ (R3.out.alloc _) (RdI.new w3 31 xEq2)).mono ?_
 rintro e w4 ⟨rfl, hb4⟩
 have hB4 : Below w.heap.size w w4 := by first | exact chain0 hB3 hb4 | exact chain1 hB3 hb4 | exact chain2 hB3 hb4
 clear hb4 hB3 R3
 go_wp2_with fail
 refine (lwhole_any 1 _).mono ?_
 rintro e w5 ⟨rfl, hb5⟩
 have hB5 : Below w.heap.size w w5 := by first | exact chain0 hB4 hb5 | exact chain1 hB4 hb5 | exact chain2 hB4 hb5
 clear hb5 hB4
 go_wp2_with fail
 refine (lrow_any _ _ _ _).mono ?_
 rintro e wx ⟨rfl, rfl⟩
 go_wp2_with fail
 refine (lstr_any ⟨#[120]⟩ _).mono ?_
 rintro e w6 ⟨rfl, hb6⟩
 have hB6 : Below w.heap.size w w6 := by first | exact chain0 hB5 hb6 | exact chain1 hB5 hb6 | exact chain2 hB5 hb6
 have R6 := hide ((RdI.new w5 31 xOne).keep hb6)
 clear hb6 hB5
 go_wp2_with fail
 refine (lrow_any _ _ _ _).mono ?_
 rintro e wx ⟨rfl, rfl⟩
 go_wp2_with fail
 refine (compare_lt w5.heap.size w6.heap.size 1 1 ev _ (cell_keep (hB6.alloc hB6.size _) Hv.out) Hev.out (R6.out.alloc _) (RdI.new w6 31 xLt2)).mono ?_
 rintro e w7 ⟨rfl, hb7⟩
 have hB7 : Below w.heap.size w w7 := by first | exact chain0 hB6 hb7 | exact chain1 hB6 hb7 | exact chain2 hB6 hb7
 clear hb7 hB6 R6
 go_wp2_with fail
 refine (lstr_any motorS _).mono ?_
 rintro e w8 ⟨rfl, hb8⟩
 have hB8 : Below w.heap.size w w8 := by first | exact chain0 hB7 hb8 | exact chain1 hB7 hb8 | exact chain2 hB7 hb8
 clear hb8 hB7
 go_wp2_with fail
 refine (lrow_any _ _ _ _).mono ?_
 rintro e wx ⟨rfl, rfl⟩
 go_wp2_with fail
 refine (lwhole_any 2 _).mono ?_
 rintro e w9 ⟨rfl, hb9⟩
 have hB9 : Below w.heap.size w w9 := by first | exact chain0 hB8 hb9 | exact chain1 hB8 hb9 | exact chain2 hB8 hb9
 have R9 := hide ((RdI.new w8 31 [⟨3, 0, motorS, 0⟩]).keep hb9)
 clear hB8
 go_wp2_with fail
 refine (lrow_any _ _ _ _).mono ?_
 rintro e wx ⟨rfl, rfl⟩
 go_wp2_with fail
 refine (lwhole_any 3 _).mono ?_
 rintro e w10 ⟨rfl, hb10⟩
 have hB10 : Below w.heap.size w w10 := by first | exact chain0 hB9 hb10 | exact chain1 hB9 hb10 | exact chain2 hB9 hb10
 have R10 := hide ((R9.out.alloc (.cells (icells [⟨2, 2, ⟨#[]⟩, 0⟩]).toArray 31)).keep hb10)
 have S10 := hide ((RdI.new w9 31 [⟨2, 2, ⟨#[]⟩, 0⟩]).keep hb10)
 clear hb9 hb10 hB9 R9
 go_wp2_with fail
 refine (lrow_any _ _ _ _).mono ?_
 rintro e wx ⟨rfl, rfl⟩
 have hr11 : Rd ((w10.alloc (.cells (icells [⟨2, 3, ⟨#[]⟩, 0⟩]).toArray 31)).alloc (.cells #[.slice (some ⟨w8.heap.size, 0, none⟩) 1 1, .slice (some ⟨w9.heap.size, 0, none⟩) 1 1, .slice (some ⟨w10.heap.size, 0, none⟩) 1 1] 22)) (some ⟨w10.heap.size + 1, 0, none⟩) [.slice (some ⟨w8.heap.size, 0, none⟩) 1 1, .slice (some ⟨w9.heap.size, 0, none⟩) 1 1, .slice (some ⟨w10.heap.size, 0, none⟩) 1 1] := by
  have := Rd.new (w10.alloc (.cells (icells [⟨2, 3, ⟨#[]⟩, 0⟩]).toArray 31)) 22 [.slice (some ⟨w8.heap.size, 0, none⟩) 1 1, .slice (some ⟨w9.heap.size, 0, none⟩) 1 1, .slice (some ⟨w10.heap.size, 0, none⟩) 1 1]
  rwa [show (w10.alloc (.cells (icells [⟨2, 3, ⟨#[]⟩, 0⟩]).toArray 31)).heap.size = w10.heap.size + 1 by simp] at this
 have Hr11 := hide hr11
 clear hr11
 have hBz : Below w.heap.size w ((w10.alloc (.cells (icells [⟨2, 3, ⟨#[]⟩, 0⟩]).toArray 31)).alloc (.cells #[.slice (some ⟨w8.heap.size, 0, none⟩) 1 1, .slice (some ⟨w9.heap.size, 0, none⟩) 1 1, .slice (some ⟨w10.heap.size, 0, none⟩) 1 1] 22)) := by
  have h1 := hB10.alloc hB10.size (.cells (icells [⟨2, 3, ⟨#[]⟩, 0⟩]).toArray 31)
  exact h1.alloc h1.size _
 go_wp2_with fail
 refine (call_sub m (w10.heap.size + 1) 3 w8.heap.size w9.heap.size w10.heap.size 1 1 1 _ (cell_keep hBz Hm.out) (Hc.out.keep hBz) Hr11.out ((R10.out.alloc _).alloc _) ((S10.out.alloc _).alloc _) ((RdI.new w10 31 [⟨2, 3, ⟨#[]⟩, 0⟩]).alloc _)).mono ?_
 rintro e w11 ⟨g, rfl, hg, hr, hb11⟩
 have hB11 := chain0 hBz hb11
 have Rg := hide hr
 clear hg hr hb11 hBz Hr11 R10 S10 hB10
 go_wp2_with fail
 refine (lnode_any 0 ⟨#[]⟩ _).mono ?_
 rintro e w12 ⟨rfl, hb12⟩
 have hB12 : Below w.heap.size w w12 := by first | exact chain0 hB11 hb12 | exact chain1 hB11 hb12 | exact chain2 hB11 hb12
 go_wp2_with fail
 refine (lwhole_any 1 _).mono ?_
 rintro e w13 ⟨rfl, hb13⟩
 have hB13 : Below w.heap.size w w13 := by first | exact chain0 hB12 hb13 | exact chain1 hB12 hb13 | exact chain2 hB12 hb13
 have Rg2 := hide ((Rg.out.keep hb12).keep hb13)
 clear hb12 hb13 Rg hB12 hB11
 go_wp2_with fail
 refine (lrow_any _ _ _ _).mono ?_
 rintro e wx ⟨rfl, rfl⟩
 go_wp2_with fail
 refine (truth_node w13.heap.size 2 _ (RdI.new w13 31 xTr)).mono ?_
 rintro e w14 ⟨rfl, hb14⟩
 have hB14 : Below w.heap.size w w14 := by first | exact chain0 hB13 hb14 | exact chain1 hB13 hb14 | exact chain2 hB13 hb14
 have Rg := hide ((Rg2.out.alloc (.cells (icells xTr).toArray 31)).keep hb14)
 clear hb14 hB13 Rg2
 go_wp2_with fail
 refine (lstr_any ⟨#[111, 116, 111]⟩ _).mono ?_
 rintro e w15 ⟨rfl, hb15⟩
 have hB15 : Below w.heap.size w w15 := by first | exact chain0 hB14 hb15 | exact chain1 hB14 hb15 | exact chain2 hB14 hb15
 have Rg2 := hide (Rg.out.keep hb15)
 clear hb15 hB14 Rg
 go_wp2_with fail
 refine (lrow_any _ _ _ _).mono ?_
 rintro e wx ⟨rfl, rfl⟩
 go_wp2_with fail
 refine (same_one g w15.heap.size 1 1 3 0 0 ⟨#[111, 116, 111]⟩ _ (Rg2.out.alloc _) (RdI.new w15 31 [⟨3, 0, ⟨#[111, 116, 111]⟩, 0⟩])).mono ?_
 rintro e w16 ⟨rfl, hb16⟩
 have hB16 : Below w.heap.size w w16 := by first | exact chain0 hB15 hb16 | exact chain1 hB15 hb16 | exact chain2 hB15 hb16
 clear hb16 hB15 Rg2
 go_wp2_with fail
 refine (lwhole_any (-7) _).mono ?_
 rintro e w17 ⟨rfl, hb17⟩
 have hB17 : Below w.heap.size w w17 := by first | exact chain0 hB16 hb17 | exact chain1 hB16 hb17 | exact chain2 hB16 hb17
 clear hb17 hB16
 go_wp2_with fail
 refine (lwhole_any 2 _).mono ?_
 rintro e w18 ⟨rfl, hb18⟩
 have hB18 : Below w.heap.size w w18 := by first | exact chain0 hB17 hb18 | exact chain1 hB17 hb18 | exact chain2 hB17 hb18
 clear hb18 hB17
 go_wp2_with fail
 refine (is_any ⟨#[100, 105, 118]⟩ 2 2 (-7) 2 0 0 (-7) 2 1 (-3) ⟨#[]⟩ ⟨#[]⟩ _ (.int (-7)) (.int 2) (isNum_int (-7)) (isNum_int 2) awake_div1 awake_div).mono ?_
 rintro e w19 ⟨rfl, hb19⟩
 have hB19 : Below w.heap.size w w19 := by first | exact chain0 hB18 hb19 | exact chain1 hB18 hb19 | exact chain2 hB18 hb19
 clear hb19 hB18
 go_wp2_with fail
 refine (lstr_any ⟨#[52]⟩ _).mono ?_
 rintro e w20 ⟨rfl, hb20⟩
 have hB20 : Below w.heap.size w w20 := by first | exact chain0 hB19 hb20 | exact chain1 hB19 hb20 | exact chain2 hB19 hb20
 clear hb20 hB19
 go_wp2_with fail
 refine (lnode_any 1 ⟨#[53]⟩ _).mono ?_
 rintro e w21 ⟨rfl, hb21⟩
 have hB21 : Below w.heap.size w w21 := by first | exact chain0 hB20 hb21 | exact chain1 hB20 hb21 | exact chain2 hB20 hb21
 clear hb21 hB20
 go_wp2_with fail
 refine (is_any ⟨#[43]⟩ 3 1 0 0 0 1 4 5 2 9 ⟨#[52]⟩ ⟨#[53]⟩ _ (.str _ ascii_4 le8_one) (.node _ 1 ascii_5 le8_one) isNum_four isNum_five awake_plus1 awake_plus).mono ?_
 rintro e w22 ⟨rfl, hb22⟩
 have hB22 : Below w.heap.size w w22 := by first | exact chain0 hB21 hb22 | exact chain1 hB21 hb22 | exact chain2 hB21 hb22
 clear hb22 hB21
 go_wp2
 go_ret
 exact ⟨rfl, hB22⟩
end Go.Proofs.YtmhnndgnnpondaaGreatDoor
namespace Go.Proofs.YtmhnndgnnpondaaGreatDoor
set_option maxRecDepth 100000
set_option maxHeartbeats 4000000
open Go.RowKit
theorem first_of {W : World} (h : Lib.VarReads Tryz.prog W "unicode/utf8.first" Rows.laid_unicode_utf8_first) : ∀ c, c < 256 → W.cell? ⟨1, c, none⟩ = some (.int .u8 (Lib.firstT c)) := by
 intro c hc
 have e : Rows.laid_unicode_utf8_first = Lib.firstData := by kernel_rfl
 rw [e] at h
 obtain ⟨g, t, cs, fuel, p, hg, ht, hv, hd⟩ := h
 obtain rfl := Option.some.inj ((show Tryz.prog.globalNamed "unicode/utf8.first" = some 1 by kernel_rfl).symm.trans hg)
 obtain rfl := Option.some.inj ((show (Tryz.prog.globals[1]?).map (·.type) = some 238 by kernel_rfl).symm.trans ht)
 have hcs := Lib.cells_of_tab Tryz.underlying238 Tryz.underlying5 (by kernel_rfl) (by kernel_rfl) hd
 rw [World.var?_cell hg hv c, ← Array.getElem?_toList, hcs]
 simp [Lib.firstTab, hc]
theorem accept_of {W : World} (h : Lib.VarReads Tryz.prog W "unicode/utf8.acceptRanges" Rows.laid_unicode_utf8_acceptRanges) : ∀ i, i < 16 → W.cell? ⟨2, 2 * i, none⟩ = some (.int .u8 (Lib.accLo i)) ∧ W.cell? ⟨2, 2 * i + 1, none⟩ = some (.int .u8 (Lib.accHi i)) := by
 intro i hi
 have e : (Rows.laid_unicode_utf8_acceptRanges : DataW Unit) = Lib.acceptData := by kernel_rfl
 rw [e] at h
 obtain ⟨g, t, cs, fuel, p, hg, ht, hv, hd⟩ := h
 obtain rfl := Option.some.inj ((show Tryz.prog.globalNamed "unicode/utf8.acceptRanges" = some 2 by kernel_rfl).symm.trans hg)
 obtain rfl := Option.some.inj ((show (Tryz.prog.globals[2]?).map (·.type) = some 241 by kernel_rfl).symm.trans ht)
 obtain ⟨fuel', d, q, hdi, he⟩ := Lib.array_elem Tryz.underlying241 hd i hi
 simp only [List.getElem?_map, List.getElem?_range hi, Option.map_some, Option.some.injEq] at hdi
 subst hdi
 have c2 : Tryz.prog.cellsOf 240 = 2 := by kernel_rfl
 have c1 : Tryz.prog.cellsOf 5 = 1 := by kernel_rfl
 rw [c2] at he
 have hcs := Lib.ints_of_struct Tryz.underlying240 (fun j f hj => by
  match j, hj with
  | 0, hj => simp at hj; subst hj; exact ⟨Tryz.underlying5, rfl, c1⟩
  | 1, hj => simp at hj; subst hj; exact ⟨Tryz.underlying5, rfl, c1⟩
  | j + 2, hj => simp at hj) (by rw [c2]; rfl) he
 have e0 := congrArg (·[0]?) hcs
 have e1 := congrArg (·[1]?) hcs
 simp only [List.getElem?_take, List.getElem?_drop] at e0 e1
 constructor
 ·rw [World.var?_cell hg hv (2 * i), ← Array.getElem?_toList]
  simpa [Nat.mul_comm] using e0
 ·rw [World.var?_cell hg hv (2 * i + 1), ← Array.getElem?_toList]
  simpa [Nat.mul_comm] using e1
theorem pow_of {W : World} (h : Lib.VarReads Tryz.prog W "internal/strconv.uint64pow10" Rows.laid_internal_strconv_uint64pow10) : Lib.TabIs Tryz.prog W "internal/strconv.uint64pow10" .u64 Lib.pow10Tab := by
 have e : (Rows.laid_internal_strconv_uint64pow10 : DataW Unit) = Lib.tabData .u64 Lib.pow10Tab := by kernel_rfl
 rw [e] at h
 obtain ⟨g, t, cs, fuel, p, hg, ht, hv, hd⟩ := h
 obtain rfl := Option.some.inj ((show Tryz.prog.globalNamed "internal/strconv.uint64pow10" = some 4 by kernel_rfl).symm.trans hg)
 obtain rfl := Option.some.inj ((show (Tryz.prog.globals[4]?).map (·.type) = some 271 by kernel_rfl).symm.trans ht)
 have hcs := Lib.cells_of_tab Tryz.underlying271 Tryz.underlying162 (by kernel_rfl) (by kernel_rfl) hd
 unfold Lib.TabIs
 rw [hv]
 congr 1
 exact Array.toList_inj.1 (by rw [hcs])
theorem drop_take (L : List Value) (k : Nat) : L.drop k = (L.drop k).take 3 ++ L.drop (k + 3) := by
 have h : L.drop (k + 3) = (L.drop k).drop 3 := by rw [List.drop_drop]
 rw [h]; exact (List.take_append_drop 3 _).symm
theorem six_of {L a0 a1 a2 a3 a4 a5 : List Value} (h : L.length = 18) (h0 : (L.drop (0 * 3)).take 3 = a0) (h1 : (L.drop (1 * 3)).take 3 = a1) (h2 : (L.drop (2 * 3)).take 3 = a2) (h3 : (L.drop (3 * 3)).take 3 = a3) (h4 : (L.drop (4 * 3)).take 3 = a4) (h5 : (L.drop (5 * 3)).take 3 = a5) :
  L = a0 ++ (a1 ++ (a2 ++ (a3 ++ (a4 ++ a5)))) := by
 have e : L.drop 18 = [] := List.drop_eq_nil_of_le (by omega)
 have s0 := drop_take L 0
 have s1 := drop_take L 3
 have s2 := drop_take L 6
 have s3 := drop_take L 9
 have s4 := drop_take L 12
 have s5 := drop_take L 15
 simp only [Nat.reduceMul, Nat.reduceAdd, Nat.zero_add, Nat.zero_mul] at *
 rw [h0] at s0; rw [h1] at s1; rw [h2] at s2; rw [h3] at s3; rw [h4] at s4; rw [h5, e, List.append_nil] at s5
 rw [s5] at s4; rw [s4] at s3; rw [s3] at s2; rw [s2] at s1; rw [s1] at s0
 simpa using s0
section
variable {H : Type} {enc : TypeId × Value → H} {w : World} {base : Nat} {sp : Nat → Bool} {held : Bool}
theorem cnt_cells {fuel : Nat} {cs : List Value} {a b : Int} {bs : List UInt8} {p : List MemPlace} (h : DataW.trod enc Tryz.prog w base sp held fuel 100 cs = some (.agg [.lit (.int .i64 a), .lit (.int .i64 b), .lit (.string bs)], p)) :
  cs = [.int .i64 a, .int .i64 b, .string ⟨bs.toArray⟩] := by
 obtain ⟨xs, n, _, hx, hl, hn, hf⟩ := DataW.trod_struct Tryz.underlying100 h
 have hl3 : cs.length = 3 := hl.trans (by kernel_rfl)
 have f0 : DataW.trod enc Tryz.prog w base sp held n 3 (List.take (Tryz.prog.cellsOf 3) (List.drop 0 cs)) = xs[0]? := hf 0 _ rfl
 have f1 : DataW.trod enc Tryz.prog w base sp held n 3 (List.take (Tryz.prog.cellsOf 3) (List.drop 1 cs)) = xs[1]? := hf 1 _ rfl
 have f2 : DataW.trod enc Tryz.prog w base sp held n 9 (List.take (Tryz.prog.cellsOf 9) (List.drop 2 cs)) = xs[2]? := hf 2 _ rfl
 have c1 : Tryz.prog.cellsOf 3 = 1 := by kernel_rfl
 have c2 : Tryz.prog.cellsOf 9 = 1 := by kernel_rfl
 obtain ⟨x0, x1, x2, rfl⟩ : ∃ x0 x1 x2, cs = [x0, x1, x2] := by
  match cs, hl3 with
  | [x0, x1, x2], _ => exact ⟨_, _, _, rfl⟩
 obtain ⟨y0, y1, y2, rfl⟩ : ∃ y0 y1 y2, xs = [y0, y1, y2] := by
  match xs, hn with
  | [y0, y1, y2], _ => exact ⟨_, _, _, rfl⟩
 simp only [c1, c2, List.drop_zero, List.drop_succ_cons, List.take_succ_cons, List.take_zero, List.getElem?_cons_zero, List.getElem?_cons_succ] at f0 f1 f2
 obtain ⟨n0, e0, g0, _⟩ := DataW.trod_int Tryz.underlying3 f0
 obtain ⟨n1, e1, g1, _⟩ := DataW.trod_int Tryz.underlying3 f1
 obtain ⟨s2, e2, g2, _⟩ := DataW.trod_string Tryz.underlying9 f2
 subst g0 g1 g2
 simp only [List.map_cons, List.map_nil, Prod.mk.injEq, DataW.agg.injEq, List.cons.injEq, DataW.lit.injEq, Lit.int.injEq, Lit.string.injEq] at hx
 obtain ⟨⟨⟨_, r0⟩, ⟨_, r1⟩, r2, _⟩, _⟩ := hx
 simp only [List.cons.injEq, and_true] at e0 e1 e2
 subst r0 r1 r2 e0 e1 e2
 rfl
end
theorem counts_of {W : World} (h : Lib.VarReads Tryz.prog W "parchment/value.counts" Rows.laid_parchment_value_counts) : Counts W := by
 obtain ⟨g, t, cs, fuel, p, hg, ht, hv, hd⟩ := h
 obtain rfl := Option.some.inj ((show Tryz.prog.globalNamed "parchment/value.counts" = some 0 by kernel_rfl).symm.trans hg)
 obtain rfl := Option.some.inj ((show (Tryz.prog.globals[0]?).map (·.type) = some 101 by kernel_rfl).symm.trans ht)
 obtain ⟨xs, m, _, hx, hl, hn, hel⟩ := DataW.trod_array Tryz.underlying101 hd
 have c3 : Tryz.prog.cellsOf 100 = 3 := by kernel_rfl
 have c18 : cs.toList.length = 18 := hl.trans (by kernel_rfl)
 rw [c3] at hel
 have e0 := hel 0 (by decide)
 have e1 := hel 1 (by decide)
 have e2 := hel 2 (by decide)
 have e3 := hel 3 (by decide)
 have e4 := hel 4 (by decide)
 have e5 := hel 5 (by decide)
 have hL : cs.toList = cntC := by
  obtain ⟨y0, q0, y1, q1, y2, q2, y3, q3, y4, q4, y5, q5, rfl⟩ : ∃ y0 q0 y1 q1 y2 q2 y3 q3 y4 q4 y5 q5, xs = [(y0, q0), (y1, q1), (y2, q2), (y3, q3), (y4, q4), (y5, q5)] := by
   match xs, hn with
   | [⟨y0, q0⟩, ⟨y1, q1⟩, ⟨y2, q2⟩, ⟨y3, q3⟩, ⟨y4, q4⟩, ⟨y5, q5⟩], _ => exact ⟨_, _, _, _, _, _, _, _, _, _, _, _, rfl⟩
  have hx1 := congrArg Prod.fst hx
  unfold Rows.laid_parchment_value_counts at hx1
  simp only [List.map_cons, List.map_nil, DataW.agg.injEq, List.cons.injEq] at hx1
  obtain ⟨r0, r1, r2, r3, r4, r5, _⟩ := hx1
  simp only [List.getElem?_cons_zero, List.getElem?_cons_succ] at e0 e1 e2 e3 e4 e5
  rw [← r0] at e0; rw [← r1] at e1; rw [← r2] at e2; rw [← r3] at e3; rw [← r4] at e4; rw [← r5] at e5
  exact six_of c18 (cnt_cells e0) (cnt_cells e1) (cnt_cells e2) (cnt_cells e3) (cnt_cells e4) (cnt_cells e5)
 intro j v hj
 rw [World.var?_cell hg hv j, ← Array.getElem?_toList, hL]
 exact hj
theorem errSyntax_of {W : World} (h : Lib.VarReads Tryz.prog W "strconv.ErrSyntax" Rows.laid_strconv_ErrSyntax) : ∃ ev, W.cell? ⟨5, 0, none⟩ = some ev ∧ (ev = .nilIface ∨ ∃ te pe, ev = .iface te pe) := by
 obtain ⟨g, t, cs, fuel, p, hg, ht, hv, hd⟩ := h
 obtain rfl := Option.some.inj ((show Tryz.prog.globalNamed "strconv.ErrSyntax" = some 5 by kernel_rfl).symm.trans hg)
 obtain rfl := Option.some.inj ((show (Tryz.prog.globals[5]?).map (·.type) = some 148 by kernel_rfl).symm.trans ht)
 obtain ⟨f', u, v, hcs, _, _⟩ := iface_of_trod Tryz.underlying148 hd
 refine ⟨.iface u v, ?_, .inr ⟨u, v, rfl⟩⟩
 rw [World.var?_cell hg hv 0, ← Array.getElem?_toList, hcs]
 rfl
theorem errRange_of {W : World} (h : Lib.VarReads Tryz.prog W "strconv.ErrRange" Rows.laid_strconv_ErrRange) : ∃ ev, W.cell? ⟨6, 0, none⟩ = some ev ∧ (ev = .nilIface ∨ ∃ te pe, ev = .iface te pe) := by
 obtain ⟨g, t, cs, fuel, p, hg, ht, hv, hd⟩ := h
 obtain rfl := Option.some.inj ((show Tryz.prog.globalNamed "strconv.ErrRange" = some 6 by kernel_rfl).symm.trans hg)
 obtain rfl := Option.some.inj ((show (Tryz.prog.globals[6]?).map (·.type) = some 148 by kernel_rfl).symm.trans ht)
 obtain ⟨f', u, v, hcs, _, _⟩ := iface_of_trod Tryz.underlying148 hd
 refine ⟨.iface u v, ?_, .inr ⟨u, v, rfl⟩⟩
 rw [World.var?_cell hg hv 0, ← Array.getElem?_toList, hcs]
 rfl
theorem maxLen_of {W : World} (h : W.ShapedOpen Tryz.prog) : ∃ m, W.cell? ⟨3, 0, none⟩ = some (.int .i64 m) :=
 Go.Proofs.cell_of_shapedOpen_int (zero := #[.int .i64 0]) (t := 3) h (of_decide_eq_true (by kernel_rfl)) (by kernel_rfl) rfl (by kernel_rfl) (by kernel_rfl) Tryz.underlying3
theorem env_of {laid : List (String × DataW Unit)} {W : World} (h : laidMetH Tryz.prog laid W) (hp : laidMetH Tryz.prog laid W = laidMet Tryz.prog laid W) (m1 : ("unicode/utf8.first", Rows.laid_unicode_utf8_first) ∈ laid) (m2 : ("unicode/utf8.acceptRanges", Rows.laid_unicode_utf8_acceptRanges) ∈ laid) (m3 : ("internal/strconv.uint64pow10", Rows.laid_internal_strconv_uint64pow10) ∈ laid) (m4 : ("strconv.ErrSyntax", Rows.laid_strconv_ErrSyntax) ∈ laid) (m5 : ("strconv.ErrRange", Rows.laid_strconv_ErrRange) ∈ laid) (m6 : ("parchment/value.counts", Rows.laid_parchment_value_counts) ∈ laid) : Env W ∧ Counts W := by
 rw [hp] at h
 exact ⟨⟨⟨first_of (Lib.laidMet.reads h m1), accept_of (Lib.laidMet.reads h m2)⟩, pow_of (Lib.laidMet.reads h m3), errSyntax_of (Lib.laidMet.reads h m4), errRange_of (Lib.laidMet.reads h m5)⟩, counts_of (Lib.laidMet.reads h m6)⟩
end Go.Proofs.YtmhnndgnnpondaaGreatDoor
