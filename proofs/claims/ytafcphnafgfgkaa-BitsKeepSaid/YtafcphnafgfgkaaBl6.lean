/- BitsOrder: the walk. -/
import Derived.Test.YtafcphnafgfgkaaBl5
namespace Go.Proofs.Ytafcphnafgfgkaa
open Go.RowKit Bm
theorem row_is (a : Option Addr) (bs : List UInt8) (n c : Nat) (x : List Bool) (w : World) (hr : RdB w a bs) (hn : bs.length = n) (hle : n ≤ 140737488351232) (hx : x = rowOf bs) :
    Calls Try.prog 15 #[.slice a n c] w fun e w' => e = .returned (.agg #[.string (pk x), .int .i64 x.length]) ∧ Below w.heap.size w w' := by
  subst hx; exact row_any a bs n c w hr hn.symm hle
theorem compare_is (l m : List Bool) (q : Int) (w : World) (hl : l.length ≤ 200) (hm : m.length ≤ 200) (hq : q = lexB l m) :
    Calls Try.prog 31 #[.agg #[.string (pk l), .int .i64 l.length], .agg #[.string (pk m), .int .i64 m.length]] w fun e w' => e = .returned (.int .i64 q) ∧ Below w.heap.size w w' := by
  subst hq; exact compare_lex l m w (by omega) (by omega)
theorem text_is (l : List Bool) (s : ByteArray) (w : World) (hl : l.length ≤ 200) (hs : s = txS l) :
    Calls Try.prog 16 #[.agg #[.string (pk l), .int .i64 l.length]] w fun e w' => e = .returned (.string s) ∧ Below w.heap.size w w' := by
  subst hs; exact text_row l w (by omega)
attribute [local irreducible] pk txS lexB
set_option maxRecDepth 100000 in
set_option maxHeartbeats 1000000 in
theorem bitsOrder_walk (a0 : Option Addr) (len0 cap0 : Nat) (z0 : List Int) (a1 : Option Addr) (len1 cap1 : Nat) (z1 : List Int) (a2 : Option Addr) (len2 cap2 : Nat) (z2 : List Int) (w : World)
    (w0 : IsRow .u8 w a0 len0 cap0 z0) (w1 : IsRow .u8 w a1 len1 cap1 z1) (w2 : IsRow .u8 w a2 len2 cap2 z2) :
    Calls Try.prog 7 #[.slice a0 len0 cap0, .slice a1 len1 cap1, .slice a2 len2 cap2] w fun e w' => e = .returned (.bool true) ∧ Below w.heap.size w w' := by
  have hB := Below.refl w.heap.size w
  obtain ⟨b0, hl0, hr0, hz0⟩ := rd_of_row w0
  obtain ⟨b1, hl1, hr1, hz1⟩ := rd_of_row w1
  obtain ⟨b2, hl2, hr2, hz2⟩ := rd_of_row w2
  clear w0 w1 w2
  obtain ⟨x, hx, hxl⟩ : ∃ x, x = rowOf b0 ∧ x.length ≤ 200 := ⟨_, rfl, rowOf_len _⟩
  obtain ⟨y, hy, hyl⟩ : ∃ y, y = rowOf b1 ∧ y.length ≤ 200 := ⟨_, rfl, rowOf_len _⟩
  obtain ⟨z, hz, hzl⟩ : ∃ z, z = rowOf b2 ∧ z.length ≤ 200 := ⟨_, rfl, rowOf_len _⟩
  have HX := hide hx
  have HY := hide hy
  have HZ := hide hz
  have HL0 := hide hl0
  have HL1 := hide hl1
  have HL2 := hide hl2
  clear hx hy hz hl0 hl1 hl2
  go_enter Try.func7, Try.ntmps7
  go_wp2_with fail
  refine (awake_any _).mono ?_
  rintro e w1 ⟨rfl, hb1⟩
  have hB2 : Below w.heap.size w w1 := by first | exact chain0 hB hb1 | exact chain1 hB hb1 | exact chain2 hB hb1 | exact chain3 hB hb1
  clear hB
  have hB := hB2
  clear hB2
  go_wp2_with fail
  refine (row_is a0 b0 _ _ x _ (hr0.keep hB) HL0.out hz0 HX.out).mono ?_
  rintro e w2 ⟨rfl, hb2⟩
  have hB2 : Below w.heap.size w w2 := by first | exact chain0 hB hb2 | exact chain1 hB hb2 | exact chain2 hB hb2 | exact chain3 hB hb2
  clear hB
  have hB := hB2
  clear hB2
  go_wp2_with fail
  refine (row_is a1 b1 _ _ y _ (hr1.keep hB) HL1.out hz1 HY.out).mono ?_
  rintro e w3 ⟨rfl, hb3⟩
  have hB2 : Below w.heap.size w w3 := by first | exact chain0 hB hb3 | exact chain1 hB hb3 | exact chain2 hB hb3 | exact chain3 hB hb3
  clear hB
  have hB := hB2
  clear hB2
  go_wp2_with fail
  refine (row_is a2 b2 _ _ z _ (hr2.keep hB) HL2.out hz2 HZ.out).mono ?_
  rintro e w4 ⟨rfl, hb4⟩
  have hB2 : Below w.heap.size w w4 := by first | exact chain0 hB hb4 | exact chain1 hB hb4 | exact chain2 hB hb4 | exact chain3 hB hb4
  clear hB
  have hB := hB2
  clear hB2
  go_wp2_with fail
  obtain ⟨wz, hwz⟩ : ∃ wz, wz = (((w4.alloc (.cells #[.string (pk x), .int .i64 x.length] 26)).alloc (.cells #[.string (pk y), .int .i64 y.length] 26)).alloc (.cells #[.string (pk z), .int .i64 z.length] 26)) := ⟨_, rfl⟩
  have kX : Blk wz w4.heap.size 26 #[.string (pk x), .int .i64 x.length] := by rw [hwz]; exact ((Blk.new w4 _ _).alloc _).alloc _
  have kY : Blk wz (w4.heap.size + 1) 26 #[.string (pk y), .int .i64 y.length] := by rw [hwz]; exact Blk.alloc (by simp [blk_alloc_at]) _
  have kZ : Blk wz (w4.heap.size + 1 + 1) 26 #[.string (pk z), .int .i64 z.length] := by rw [hwz]; simp [blk_alloc_at]
  have hs4 := hB.size
  have hBz : Below w.heap.size w wz := by rw [hwz]; exact ((hB.alloc hs4 _).alloc (by simp; omega) _).alloc (by simp; omega) _
  rw [← hwz]
  clear hwz hB
  obtain ⟨c, hc⟩ : ∃ c, c = lexB x y := ⟨_, rfl⟩
  obtain ⟨d, hd⟩ : ∃ d, d = lexB y x := ⟨_, rfl⟩
  obtain ⟨sx, hsx⟩ : ∃ s, s = txS x := ⟨_, rfl⟩
  obtain ⟨sy, hsy⟩ : ∃ s, s = txS y := ⟨_, rfl⟩
  have hcd : c = -d := by rw [hc, hd]; exact lex_anti _ _
  have hdv : d = -1 ∨ d = 0 ∨ d = 1 := by rw [hd]; exact lex_vals _ _
  have hneg : IntKind.i64.wrap (-d) = c := by rw [hcd, IntKind.wrap_i64]; omega
  have hne : (c != c) = false := by simp
  have hzero : (c == 0) = (sx.toList == sy.toList) := by
    rw [hc, hsx, hsy, Bool.eq_iff_iff, beq_iff_eq, beq_iff_eq, ByteArray.toList_eq, ByteArray.toList_eq, lex_zero]
    exact ⟨fun h => by rw [h], fun h => txS_inj _ _ (ByteArray.ext (Array.ext' h))⟩
  have hzq : ((c == 0) == (sx.toList == sy.toList)) = true := by rw [hzero]; simp
  clear hzero
  obtain ⟨q2, hq2⟩ : ∃ q, q = lexB y z := ⟨_, rfl⟩
  obtain ⟨q3, hq3⟩ : ∃ q, q = lexB x z := ⟨_, rfl⟩
  have htr : c ≤ 0 → q2 ≤ 0 → q3 ≤ 0 := by rw [hc, hq2, hq3]; exact lex_trans x y z
  have Htr := hide htr
  have Hq2 := hide hq2
  have Hq3 := hide hq3
  clear hq2 hq3 htr
  have Hc := hide hc
  have Hd := hide hd
  have Hsx := hide hsx
  have Hsy := hide hsy
  have Hcd := hide hcd
  clear hc hd hsx hsy hcd hdv
  have p0 := kX.cell 0
  have p1 := kX.cell 1
  have p2 := kY.cell 0
  have p3 := kY.cell 1
  simp only [List.getElem?_toArray, List.getElem?_cons_zero, List.getElem?_cons_succ] at p0 p1 p2 p3
  have l0 := later_cell p0
  have l1 := later_cell p1
  have l2 := later_cell p2
  have l3 := later_cell p3
  clear p0 p1 p2 p3
  refine wp_region_later (by kernel_rfl) (by kernel_rfl) ?_
  iterate 3 go_big_quiet_step ((go_at_call 31; with_reducible exact later_of (compare_is x y c _ hxl hyl Hc.out)))
  iterate 3 go_big_quiet_step ((go_at_call 31; with_reducible exact later_of (compare_is y x d _ hyl hxl Hd.out)))
  iterate 3 go_big_quiet_step (fail)
  iterate 3 go_big_quiet_step ((go_at_call 31; with_reducible exact later_of (compare_is x y c _ hxl hyl Hc.out)))
  iterate 3 go_big_quiet_step ((go_at_call 16; with_reducible exact later_of (text_is x sx _ hxl Hsx.out)))
  iterate 2 go_big_quiet_step ((go_at_call 16; with_reducible exact later_of (text_is y sy _ hyl Hsy.out)))
  iterate 3 go_big_quiet_step (fail)
  refine wpQuiet_nil ?_
  intro w5 hw'
  obtain ⟨⟨w5', hb5⟩, hw''⟩ := hw'
  change w5 = w5' at hw''
  subst hw''
  clear l0 l1 l2 l3
  have hB := chain0 hBz hb5
  have kX := kX.keep hb5
  have kY := kY.keep hb5
  have kZ := kZ.keep hb5
  clear hb5 hBz
  have x_X : Blk w5 w4.heap.size 26 #[.string (pk x), .int .i64 x.length] := kX
  have x_Y : Blk w5 (w4.heap.size + 1) 26 #[.string (pk y), .int .i64 y.length] := kY
  have x_Z : Blk w5 (w4.heap.size + 1 + 1) 26 #[.string (pk z), .int .i64 z.length] := kZ
  clear kX kY kZ
  have c_X0_0 := x_X.cell 0
  have c_X1_0 := x_X.cell 1
  have c_Y0_0 := x_Y.cell 0
  have c_Y1_0 := x_Y.cell 1
  have c_Z0_0 := x_Z.cell 0
  have c_Z1_0 := x_Z.cell 1
  simp only [List.getElem?_toArray, List.getElem?_cons_zero, List.getElem?_cons_succ] at c_X0_0 c_X1_0 c_Y0_0 c_Y1_0 c_Z0_0 c_Z1_0
  go_wp2_with fail
  refine (compare_is x y c _ hxl hyl Hc.out).mono ?_
  rintro e w6 ⟨rfl, hb6⟩
  have hB2 : Below w.heap.size w w6 := by first | exact chain0 hB hb6 | exact chain1 hB hb6 | exact chain2 hB hb6 | exact chain3 hB hb6
  clear hB
  have hB := hB2
  clear hB2
  have y_X : Blk w6 w4.heap.size 26 #[.string (pk x), .int .i64 x.length] := by first | exact x_X.keep hb6 | exact (x_X.alloc _).keep hb6 | exact ((x_X.alloc _).alloc _).keep hb6 | exact (((x_X.alloc _).alloc _).alloc _).keep hb6
  have y_Y : Blk w6 (w4.heap.size + 1) 26 #[.string (pk y), .int .i64 y.length] := by first | exact x_Y.keep hb6 | exact (x_Y.alloc _).keep hb6 | exact ((x_Y.alloc _).alloc _).keep hb6 | exact (((x_Y.alloc _).alloc _).alloc _).keep hb6
  have y_Z : Blk w6 (w4.heap.size + 1 + 1) 26 #[.string (pk z), .int .i64 z.length] := by first | exact x_Z.keep hb6 | exact (x_Z.alloc _).keep hb6 | exact ((x_Z.alloc _).alloc _).keep hb6 | exact (((x_Z.alloc _).alloc _).alloc _).keep hb6
  clear x_X x_Y x_Z
  have x_X := y_X
  have x_Y := y_Y
  have x_Z := y_Z
  clear y_X y_Y y_Z
  by_cases h1 : 0 < c
  · go_wp2
    go_ret
    exact ⟨rfl, hB⟩
  · have c_X0_0 := x_X.cell 0
    have c_X1_0 := x_X.cell 1
    have c_Y0_0 := x_Y.cell 0
    have c_Y1_0 := x_Y.cell 1
    have c_Z0_0 := x_Z.cell 0
    have c_Z1_0 := x_Z.cell 1
    simp only [List.getElem?_toArray, List.getElem?_cons_zero, List.getElem?_cons_succ] at c_X0_0 c_X1_0 c_Y0_0 c_Y1_0 c_Z0_0 c_Z1_0
    go_wp2_with fail
    refine (compare_is y z q2 _ hyl hzl Hq2.out).mono ?_
    rintro e w7 ⟨rfl, hb7⟩
    have hB2 : Below w.heap.size w w7 := by first | exact chain0 hB hb7 | exact chain1 hB hb7 | exact chain2 hB hb7 | exact chain3 hB hb7
    clear hB
    have hB := hB2
    clear hB2
    have y_X : Blk w7 w4.heap.size 26 #[.string (pk x), .int .i64 x.length] := by first | exact x_X.keep hb7 | exact (x_X.alloc _).keep hb7 | exact ((x_X.alloc _).alloc _).keep hb7 | exact (((x_X.alloc _).alloc _).alloc _).keep hb7
    have y_Y : Blk w7 (w4.heap.size + 1) 26 #[.string (pk y), .int .i64 y.length] := by first | exact x_Y.keep hb7 | exact (x_Y.alloc _).keep hb7 | exact ((x_Y.alloc _).alloc _).keep hb7 | exact (((x_Y.alloc _).alloc _).alloc _).keep hb7
    have y_Z : Blk w7 (w4.heap.size + 1 + 1) 26 #[.string (pk z), .int .i64 z.length] := by first | exact x_Z.keep hb7 | exact (x_Z.alloc _).keep hb7 | exact ((x_Z.alloc _).alloc _).keep hb7 | exact (((x_Z.alloc _).alloc _).alloc _).keep hb7
    clear x_X x_Y x_Z
    have x_X := y_X
    have x_Y := y_Y
    have x_Z := y_Z
    clear y_X y_Y y_Z
    by_cases h2 : 0 < q2
    · go_wp2
      go_ret
      exact ⟨rfl, hB⟩
    · have h3 : q3 ≤ 0 := Htr.out (by omega) (by omega)
      have c_X0_0 := x_X.cell 0
      have c_X1_0 := x_X.cell 1
      have c_Y0_0 := x_Y.cell 0
      have c_Y1_0 := x_Y.cell 1
      have c_Z0_0 := x_Z.cell 0
      have c_Z1_0 := x_Z.cell 1
      simp only [List.getElem?_toArray, List.getElem?_cons_zero, List.getElem?_cons_succ] at c_X0_0 c_X1_0 c_Y0_0 c_Y1_0 c_Z0_0 c_Z1_0
      go_wp2_with fail
      refine (compare_is x z q3 _ hxl hzl Hq3.out).mono ?_
      rintro e w8 ⟨rfl, hb8⟩
      have hB2 : Below w.heap.size w w8 := by first | exact chain0 hB hb8 | exact chain1 hB hb8 | exact chain2 hB hb8 | exact chain3 hB hb8
      clear hB
      have hB := hB2
      clear hB2
      have y_X : Blk w8 w4.heap.size 26 #[.string (pk x), .int .i64 x.length] := by first | exact x_X.keep hb8 | exact (x_X.alloc _).keep hb8 | exact ((x_X.alloc _).alloc _).keep hb8 | exact (((x_X.alloc _).alloc _).alloc _).keep hb8
      have y_Y : Blk w8 (w4.heap.size + 1) 26 #[.string (pk y), .int .i64 y.length] := by first | exact x_Y.keep hb8 | exact (x_Y.alloc _).keep hb8 | exact ((x_Y.alloc _).alloc _).keep hb8 | exact (((x_Y.alloc _).alloc _).alloc _).keep hb8
      have y_Z : Blk w8 (w4.heap.size + 1 + 1) 26 #[.string (pk z), .int .i64 z.length] := by first | exact x_Z.keep hb8 | exact (x_Z.alloc _).keep hb8 | exact ((x_Z.alloc _).alloc _).keep hb8 | exact (((x_Z.alloc _).alloc _).alloc _).keep hb8
      clear x_X x_Y x_Z
      have x_X := y_X
      have x_Y := y_Y
      have x_Z := y_Z
      clear y_X y_Y y_Z
      go_wp2
      go_ret
      exact ⟨rfl, hB⟩
end Go.Proofs.Ytafcphnafgfgkaa

