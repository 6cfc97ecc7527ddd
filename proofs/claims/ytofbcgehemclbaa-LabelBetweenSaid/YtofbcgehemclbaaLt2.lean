/- LabelBetween: the walk. -/
import Derived.Test.YtofbcgehemclbaaLl2
import Derived.Test.YtofbcgehemclbaaLb11
namespace Go.Proofs.Ytofbcgehemclbaa
open Go.RowKit Bm
set_option maxRecDepth 100000 in
set_option maxHeartbeats 2000000 in
theorem labelBetween_walk (a0 : Option Addr) (len0 cap0 : Nat) (z0 : List Int) (a1 : Option Addr) (len1 cap1 : Nat) (z1 : List Int) (a2 : Option Addr) (len2 cap2 : Nat) (z2 : List Int) (w : World)
    (w0 : IsRow .u8 w a0 len0 cap0 z0) (w1 : IsRow .u8 w a1 len1 cap1 z1) (w2 : IsRow .u8 w a2 len2 cap2 z2) :
    Calls Try.prog 4 #[.slice a0 len0 cap0, .slice a1 len1 cap1, .slice a2 len2 cap2] w fun e w' => e = .returned (.bool true) ∧ Below w.heap.size w w' := by
  have hB := Below.refl w.heap.size w
  obtain ⟨xs, hl0, hr0, hz0⟩ := rd_of_row w0
  obtain ⟨ys, hl1, hr1, hz1⟩ := rd_of_row w1
  obtain ⟨zs, hl2, hr2, hz2⟩ := rd_of_row w2
  clear w0 w1 w2
  by_cases hs : (1000 : Int) < (len0 : Int) + len1 + len2
  · clear hl0 hl1 hl2
    go_enter Try.func4, Try.ntmps4
    go_wp2_with fail
    refine (awake_any _).mono ?_
    rintro e w1 ⟨rfl, hb1⟩
    have hB2 : Below w.heap.size w w1 := by first | exact chain0 hB hb1 | exact chain1 hB hb1 | exact chain2 hB hb1 | exact chain3 hB hb1
    clear hB
    have hB := hB2
    clear hB2
    go_wp2
    go_ret
    exact ⟨rfl, hB⟩
  · have hs' : (len0 : Int) + len1 + len2 ≤ 1000 := by omega
    have hz0' : len0 ≤ 1000 := by omega
    have hz1' : len1 ≤ 1000 := by omega
    have hz2' : len2 ≤ 1000 := by omega
    have Hl0 : Hid (len0 = xs.length) := hl0.symm
    have Hl1 : Hid (len1 = ys.length) := hl1.symm
    have Hl2 : Hid (len2 = zs.length) := hl2.symm
    obtain ⟨q, out, l, hl, hl', h1, h2⟩ := between_both xs ys zs
    have Hl := hide hl
    have H1 := hide h1
    have H2 := hide h2
    clear hs hl0 hl1 hl2 hl h1 h2 hz0 hz1 hz2
    go_enter Try.func4, Try.ntmps4
    go_wp2_with fail
    refine (awake_any _).mono ?_
    rintro e w1 ⟨rfl, hb1⟩
    have hB2 : Below w.heap.size w w1 := by first | exact chain0 hB hb1 | exact chain1 hB hb1 | exact chain2 hB hb1 | exact chain3 hB hb1
    clear hB
    have hB := hB2
    clear hB2
    have x_X : RdB w1 a0 xs := hr0.keep hB
    have x_Y : RdB w1 a1 ys := hr1.keep hB
    have x_Z : RdB w1 a2 zs := hr2.keep hB
    clear hr0 hr1 hr2
    go_wp2_with fail
    refine (lentR a0 xs len0 cap0 _ x_X Hl0.out (by omega)).mono ?_
    rintro e w2 ⟨g0, rfl, k0, hb2⟩
    have hB2 : Below w.heap.size w w2 := by first | exact chain0 hB hb2 | exact chain1 hB hb2 | exact chain2 hB hb2 | exact chain3 hB hb2
    clear hB
    have hB := hB2
    clear hB2
    have y_X : RdB w2 a0 xs := by first | exact x_X.keep hb2 | exact (x_X.alloc _).keep hb2 | exact ((x_X.alloc _).alloc _).keep hb2 | exact (((x_X.alloc _).alloc _).alloc _).keep hb2
    have y_Y : RdB w2 a1 ys := by first | exact x_Y.keep hb2 | exact (x_Y.alloc _).keep hb2 | exact ((x_Y.alloc _).alloc _).keep hb2 | exact (((x_Y.alloc _).alloc _).alloc _).keep hb2
    have y_Z : RdB w2 a2 zs := by first | exact x_Z.keep hb2 | exact (x_Z.alloc _).keep hb2 | exact ((x_Z.alloc _).alloc _).keep hb2 | exact (((x_Z.alloc _).alloc _).alloc _).keep hb2
    clear x_X x_Y x_Z
    have x_X := y_X
    have x_Y := y_Y
    have x_Z := y_Z
    clear y_X y_Y y_Z
    have x_G : Rw w2 g0 (lent xs) := k0
    clear k0
    go_wp2_with fail
    refine (lentR a1 ys len1 cap1 _ x_Y Hl1.out (by omega)).mono ?_
    rintro e w3 ⟨g1, rfl, k1, hb3⟩
    have hB2 : Below w.heap.size w w3 := by first | exact chain0 hB hb3 | exact chain1 hB hb3 | exact chain2 hB hb3 | exact chain3 hB hb3
    clear hB
    have hB := hB2
    clear hB2
    have y_X : RdB w3 a0 xs := by first | exact x_X.keep hb3 | exact (x_X.alloc _).keep hb3 | exact ((x_X.alloc _).alloc _).keep hb3 | exact (((x_X.alloc _).alloc _).alloc _).keep hb3
    have y_Y : RdB w3 a1 ys := by first | exact x_Y.keep hb3 | exact (x_Y.alloc _).keep hb3 | exact ((x_Y.alloc _).alloc _).keep hb3 | exact (((x_Y.alloc _).alloc _).alloc _).keep hb3
    have y_Z : RdB w3 a2 zs := by first | exact x_Z.keep hb3 | exact (x_Z.alloc _).keep hb3 | exact ((x_Z.alloc _).alloc _).keep hb3 | exact (((x_Z.alloc _).alloc _).alloc _).keep hb3
    have y_G : Rw w3 g0 (lent xs) := by first | exact x_G.keep hb3 | exact (x_G.alloc _).keep hb3 | exact ((x_G.alloc _).alloc _).keep hb3 | exact (((x_G.alloc _).alloc _).alloc _).keep hb3
    clear x_X x_Y x_Z x_G
    have x_X := y_X
    have x_Y := y_Y
    have x_Z := y_Z
    have x_G := y_G
    clear y_X y_Y y_Z y_G
    have x_H : Rw w3 g1 (lent ys) := k1
    clear k1
    go_wp2_with fail
    refine (lentR a2 zs len2 cap2 _ x_Z Hl2.out (by omega)).mono ?_
    rintro e w4 ⟨g2, rfl, k2, hb4⟩
    have hB2 : Below w.heap.size w w4 := by first | exact chain0 hB hb4 | exact chain1 hB hb4 | exact chain2 hB hb4 | exact chain3 hB hb4
    clear hB
    have hB := hB2
    clear hB2
    have y_X : RdB w4 a0 xs := by first | exact x_X.keep hb4 | exact (x_X.alloc _).keep hb4 | exact ((x_X.alloc _).alloc _).keep hb4 | exact (((x_X.alloc _).alloc _).alloc _).keep hb4
    have y_Y : RdB w4 a1 ys := by first | exact x_Y.keep hb4 | exact (x_Y.alloc _).keep hb4 | exact ((x_Y.alloc _).alloc _).keep hb4 | exact (((x_Y.alloc _).alloc _).alloc _).keep hb4
    have y_Z : RdB w4 a2 zs := by first | exact x_Z.keep hb4 | exact (x_Z.alloc _).keep hb4 | exact ((x_Z.alloc _).alloc _).keep hb4 | exact (((x_Z.alloc _).alloc _).alloc _).keep hb4
    have y_G : Rw w4 g0 (lent xs) := by first | exact x_G.keep hb4 | exact (x_G.alloc _).keep hb4 | exact ((x_G.alloc _).alloc _).keep hb4 | exact (((x_G.alloc _).alloc _).alloc _).keep hb4
    have y_H : Rw w4 g1 (lent ys) := by first | exact x_H.keep hb4 | exact (x_H.alloc _).keep hb4 | exact ((x_H.alloc _).alloc _).keep hb4 | exact (((x_H.alloc _).alloc _).alloc _).keep hb4
    clear x_X x_Y x_Z x_G x_H
    have x_X := y_X
    have x_Y := y_Y
    have x_Z := y_Z
    have x_G := y_G
    have x_H := y_H
    clear y_X y_Y y_Z y_G y_H
    have x_I : Rw w4 g2 (lent zs) := k2
    clear k2
    go_wp2_with fail
    refine (H1.out _ _ _ len0 _ len1 _ len2 _ _ (lent_rd x_G Hl0.out) (lent_rd x_H Hl1.out) (lent_rd x_I Hl2.out) Hl0.out Hl1.out Hl2.out (by omega) (by omega) (by omega)).mono ?_
    rintro e w5 ⟨a5, c5, rfl, k5, hb5⟩
    have hB2 : Below w.heap.size w w5 := by first | exact chain0 hB hb5 | exact chain1 hB hb5 | exact chain2 hB hb5 | exact chain3 hB hb5
    clear hB
    have hB := hB2
    clear hB2
    have y_X : RdB w5 a0 xs := by first | exact x_X.keep hb5 | exact (x_X.alloc _).keep hb5 | exact ((x_X.alloc _).alloc _).keep hb5 | exact (((x_X.alloc _).alloc _).alloc _).keep hb5
    have y_Y : RdB w5 a1 ys := by first | exact x_Y.keep hb5 | exact (x_Y.alloc _).keep hb5 | exact ((x_Y.alloc _).alloc _).keep hb5 | exact (((x_Y.alloc _).alloc _).alloc _).keep hb5
    have y_Z : RdB w5 a2 zs := by first | exact x_Z.keep hb5 | exact (x_Z.alloc _).keep hb5 | exact ((x_Z.alloc _).alloc _).keep hb5 | exact (((x_Z.alloc _).alloc _).alloc _).keep hb5
    have y_G : Rw w5 g0 (lent xs) := by first | exact x_G.keep hb5 | exact (x_G.alloc _).keep hb5 | exact ((x_G.alloc _).alloc _).keep hb5 | exact (((x_G.alloc _).alloc _).alloc _).keep hb5
    have y_H : Rw w5 g1 (lent ys) := by first | exact x_H.keep hb5 | exact (x_H.alloc _).keep hb5 | exact ((x_H.alloc _).alloc _).keep hb5 | exact (((x_H.alloc _).alloc _).alloc _).keep hb5
    have y_I : Rw w5 g2 (lent zs) := by first | exact x_I.keep hb5 | exact (x_I.alloc _).keep hb5 | exact ((x_I.alloc _).alloc _).keep hb5 | exact (((x_I.alloc _).alloc _).alloc _).keep hb5
    clear x_X x_Y x_Z x_G x_H x_I
    have x_X := y_X
    have x_Y := y_Y
    have x_Z := y_Z
    have x_G := y_G
    have x_H := y_H
    have x_I := y_I
    clear y_X y_Y y_Z y_G y_H y_I
    have x_P : RdB w5 a5 out := k5
    clear k5
    go_wp2_with fail
    refine (H2.out _ _ _ len0 _ len1 _ len2 _ _ x_X x_Y x_Z Hl0.out Hl1.out Hl2.out (by omega) (by omega) (by omega)).mono ?_
    rintro e w6 ⟨a6, c6, rfl, k6, hb6⟩
    have hB2 : Below w.heap.size w w6 := by first | exact chain0 hB hb6 | exact chain1 hB hb6 | exact chain2 hB hb6 | exact chain3 hB hb6
    clear hB
    have hB := hB2
    clear hB2
    have y_X : RdB w6 a0 xs := by first | exact x_X.keep hb6 | exact (x_X.alloc _).keep hb6 | exact ((x_X.alloc _).alloc _).keep hb6 | exact (((x_X.alloc _).alloc _).alloc _).keep hb6
    have y_Y : RdB w6 a1 ys := by first | exact x_Y.keep hb6 | exact (x_Y.alloc _).keep hb6 | exact ((x_Y.alloc _).alloc _).keep hb6 | exact (((x_Y.alloc _).alloc _).alloc _).keep hb6
    have y_Z : RdB w6 a2 zs := by first | exact x_Z.keep hb6 | exact (x_Z.alloc _).keep hb6 | exact ((x_Z.alloc _).alloc _).keep hb6 | exact (((x_Z.alloc _).alloc _).alloc _).keep hb6
    have y_G : Rw w6 g0 (lent xs) := by first | exact x_G.keep hb6 | exact (x_G.alloc _).keep hb6 | exact ((x_G.alloc _).alloc _).keep hb6 | exact (((x_G.alloc _).alloc _).alloc _).keep hb6
    have y_H : Rw w6 g1 (lent ys) := by first | exact x_H.keep hb6 | exact (x_H.alloc _).keep hb6 | exact ((x_H.alloc _).alloc _).keep hb6 | exact (((x_H.alloc _).alloc _).alloc _).keep hb6
    have y_I : Rw w6 g2 (lent zs) := by first | exact x_I.keep hb6 | exact (x_I.alloc _).keep hb6 | exact ((x_I.alloc _).alloc _).keep hb6 | exact (((x_I.alloc _).alloc _).alloc _).keep hb6
    have y_P : RdB w6 a5 out := by first | exact x_P.keep hb6 | exact (x_P.alloc _).keep hb6 | exact ((x_P.alloc _).alloc _).keep hb6 | exact (((x_P.alloc _).alloc _).alloc _).keep hb6
    clear x_X x_Y x_Z x_G x_H x_I x_P
    have x_X := y_X
    have x_Y := y_Y
    have x_Z := y_Z
    have x_G := y_G
    have x_H := y_H
    have x_I := y_I
    have x_P := y_P
    clear y_X y_Y y_Z y_G y_H y_I y_P
    go_wp2_with fail
    refine (sameT a5 a6 out l c5 l c6 _ x_P k6 Hl.out Hl.out (by omega)).mono ?_
    rintro e w7 ⟨rfl, hb7⟩
    have hB2 : Below w.heap.size w w7 := by first | exact chain0 hB hb7 | exact chain1 hB hb7 | exact chain2 hB hb7 | exact chain3 hB hb7
    clear hB
    have hB := hB2
    clear hB2
    have y_X : RdB w7 a0 xs := by first | exact x_X.keep hb7 | exact (x_X.alloc _).keep hb7 | exact ((x_X.alloc _).alloc _).keep hb7 | exact (((x_X.alloc _).alloc _).alloc _).keep hb7
    have y_Y : RdB w7 a1 ys := by first | exact x_Y.keep hb7 | exact (x_Y.alloc _).keep hb7 | exact ((x_Y.alloc _).alloc _).keep hb7 | exact (((x_Y.alloc _).alloc _).alloc _).keep hb7
    have y_Z : RdB w7 a2 zs := by first | exact x_Z.keep hb7 | exact (x_Z.alloc _).keep hb7 | exact ((x_Z.alloc _).alloc _).keep hb7 | exact (((x_Z.alloc _).alloc _).alloc _).keep hb7
    have y_G : Rw w7 g0 (lent xs) := by first | exact x_G.keep hb7 | exact (x_G.alloc _).keep hb7 | exact ((x_G.alloc _).alloc _).keep hb7 | exact (((x_G.alloc _).alloc _).alloc _).keep hb7
    have y_H : Rw w7 g1 (lent ys) := by first | exact x_H.keep hb7 | exact (x_H.alloc _).keep hb7 | exact ((x_H.alloc _).alloc _).keep hb7 | exact (((x_H.alloc _).alloc _).alloc _).keep hb7
    have y_I : Rw w7 g2 (lent zs) := by first | exact x_I.keep hb7 | exact (x_I.alloc _).keep hb7 | exact ((x_I.alloc _).alloc _).keep hb7 | exact (((x_I.alloc _).alloc _).alloc _).keep hb7
    have y_P : RdB w7 a5 out := by first | exact x_P.keep hb7 | exact (x_P.alloc _).keep hb7 | exact ((x_P.alloc _).alloc _).keep hb7 | exact (((x_P.alloc _).alloc _).alloc _).keep hb7
    clear x_X x_Y x_Z x_G x_H x_I x_P
    have x_X := y_X
    have x_Y := y_Y
    have x_Z := y_Z
    have x_G := y_G
    have x_H := y_H
    have x_I := y_I
    have x_P := y_P
    clear y_X y_Y y_Z y_G y_H y_I y_P
    clear k6
    go_wp2_with fail
    refine (kept_true a0 xs g0 len0 cap0 _ x_G x_X Hl0.out (by omega)).mono ?_
    rintro e w8 ⟨rfl, hb8⟩
    have hB2 : Below w.heap.size w w8 := by first | exact chain0 hB hb8 | exact chain1 hB hb8 | exact chain2 hB hb8 | exact chain3 hB hb8
    clear hB
    have hB := hB2
    clear hB2
    have y_X : RdB w8 a0 xs := by first | exact x_X.keep hb8 | exact (x_X.alloc _).keep hb8 | exact ((x_X.alloc _).alloc _).keep hb8 | exact (((x_X.alloc _).alloc _).alloc _).keep hb8
    have y_Y : RdB w8 a1 ys := by first | exact x_Y.keep hb8 | exact (x_Y.alloc _).keep hb8 | exact ((x_Y.alloc _).alloc _).keep hb8 | exact (((x_Y.alloc _).alloc _).alloc _).keep hb8
    have y_Z : RdB w8 a2 zs := by first | exact x_Z.keep hb8 | exact (x_Z.alloc _).keep hb8 | exact ((x_Z.alloc _).alloc _).keep hb8 | exact (((x_Z.alloc _).alloc _).alloc _).keep hb8
    have y_G : Rw w8 g0 (lent xs) := by first | exact x_G.keep hb8 | exact (x_G.alloc _).keep hb8 | exact ((x_G.alloc _).alloc _).keep hb8 | exact (((x_G.alloc _).alloc _).alloc _).keep hb8
    have y_H : Rw w8 g1 (lent ys) := by first | exact x_H.keep hb8 | exact (x_H.alloc _).keep hb8 | exact ((x_H.alloc _).alloc _).keep hb8 | exact (((x_H.alloc _).alloc _).alloc _).keep hb8
    have y_I : Rw w8 g2 (lent zs) := by first | exact x_I.keep hb8 | exact (x_I.alloc _).keep hb8 | exact ((x_I.alloc _).alloc _).keep hb8 | exact (((x_I.alloc _).alloc _).alloc _).keep hb8
    have y_P : RdB w8 a5 out := by first | exact x_P.keep hb8 | exact (x_P.alloc _).keep hb8 | exact ((x_P.alloc _).alloc _).keep hb8 | exact (((x_P.alloc _).alloc _).alloc _).keep hb8
    clear x_X x_Y x_Z x_G x_H x_I x_P
    have x_X := y_X
    have x_Y := y_Y
    have x_Z := y_Z
    have x_G := y_G
    have x_H := y_H
    have x_I := y_I
    have x_P := y_P
    clear y_X y_Y y_Z y_G y_H y_I y_P
    go_wp2_with fail
    refine (kept_true a1 ys g1 len1 cap1 _ x_H x_Y Hl1.out (by omega)).mono ?_
    rintro e w9 ⟨rfl, hb9⟩
    have hB2 : Below w.heap.size w w9 := by first | exact chain0 hB hb9 | exact chain1 hB hb9 | exact chain2 hB hb9 | exact chain3 hB hb9
    clear hB
    have hB := hB2
    clear hB2
    have y_X : RdB w9 a0 xs := by first | exact x_X.keep hb9 | exact (x_X.alloc _).keep hb9 | exact ((x_X.alloc _).alloc _).keep hb9 | exact (((x_X.alloc _).alloc _).alloc _).keep hb9
    have y_Y : RdB w9 a1 ys := by first | exact x_Y.keep hb9 | exact (x_Y.alloc _).keep hb9 | exact ((x_Y.alloc _).alloc _).keep hb9 | exact (((x_Y.alloc _).alloc _).alloc _).keep hb9
    have y_Z : RdB w9 a2 zs := by first | exact x_Z.keep hb9 | exact (x_Z.alloc _).keep hb9 | exact ((x_Z.alloc _).alloc _).keep hb9 | exact (((x_Z.alloc _).alloc _).alloc _).keep hb9
    have y_G : Rw w9 g0 (lent xs) := by first | exact x_G.keep hb9 | exact (x_G.alloc _).keep hb9 | exact ((x_G.alloc _).alloc _).keep hb9 | exact (((x_G.alloc _).alloc _).alloc _).keep hb9
    have y_H : Rw w9 g1 (lent ys) := by first | exact x_H.keep hb9 | exact (x_H.alloc _).keep hb9 | exact ((x_H.alloc _).alloc _).keep hb9 | exact (((x_H.alloc _).alloc _).alloc _).keep hb9
    have y_I : Rw w9 g2 (lent zs) := by first | exact x_I.keep hb9 | exact (x_I.alloc _).keep hb9 | exact ((x_I.alloc _).alloc _).keep hb9 | exact (((x_I.alloc _).alloc _).alloc _).keep hb9
    have y_P : RdB w9 a5 out := by first | exact x_P.keep hb9 | exact (x_P.alloc _).keep hb9 | exact ((x_P.alloc _).alloc _).keep hb9 | exact (((x_P.alloc _).alloc _).alloc _).keep hb9
    clear x_X x_Y x_Z x_G x_H x_I x_P
    have x_X := y_X
    have x_Y := y_Y
    have x_Z := y_Z
    have x_G := y_G
    have x_H := y_H
    have x_I := y_I
    have x_P := y_P
    clear y_X y_Y y_Z y_G y_H y_I y_P
    go_wp2_with fail
    refine (kept_true a2 zs g2 len2 cap2 _ x_I x_Z Hl2.out (by omega)).mono ?_
    rintro e w10 ⟨rfl, hb10⟩
    have hB2 : Below w.heap.size w w10 := by first | exact chain0 hB hb10 | exact chain1 hB hb10 | exact chain2 hB hb10 | exact chain3 hB hb10
    clear hB
    have hB := hB2
    clear hB2
    have y_X : RdB w10 a0 xs := by first | exact x_X.keep hb10 | exact (x_X.alloc _).keep hb10 | exact ((x_X.alloc _).alloc _).keep hb10 | exact (((x_X.alloc _).alloc _).alloc _).keep hb10
    have y_Y : RdB w10 a1 ys := by first | exact x_Y.keep hb10 | exact (x_Y.alloc _).keep hb10 | exact ((x_Y.alloc _).alloc _).keep hb10 | exact (((x_Y.alloc _).alloc _).alloc _).keep hb10
    have y_Z : RdB w10 a2 zs := by first | exact x_Z.keep hb10 | exact (x_Z.alloc _).keep hb10 | exact ((x_Z.alloc _).alloc _).keep hb10 | exact (((x_Z.alloc _).alloc _).alloc _).keep hb10
    have y_G : Rw w10 g0 (lent xs) := by first | exact x_G.keep hb10 | exact (x_G.alloc _).keep hb10 | exact ((x_G.alloc _).alloc _).keep hb10 | exact (((x_G.alloc _).alloc _).alloc _).keep hb10
    have y_H : Rw w10 g1 (lent ys) := by first | exact x_H.keep hb10 | exact (x_H.alloc _).keep hb10 | exact ((x_H.alloc _).alloc _).keep hb10 | exact (((x_H.alloc _).alloc _).alloc _).keep hb10
    have y_I : Rw w10 g2 (lent zs) := by first | exact x_I.keep hb10 | exact (x_I.alloc _).keep hb10 | exact ((x_I.alloc _).alloc _).keep hb10 | exact (((x_I.alloc _).alloc _).alloc _).keep hb10
    have y_P : RdB w10 a5 out := by first | exact x_P.keep hb10 | exact (x_P.alloc _).keep hb10 | exact ((x_P.alloc _).alloc _).keep hb10 | exact (((x_P.alloc _).alloc _).alloc _).keep hb10
    clear x_X x_Y x_Z x_G x_H x_I x_P
    have x_X := y_X
    have x_Y := y_Y
    have x_Z := y_Z
    have x_G := y_G
    have x_H := y_H
    have x_I := y_I
    have x_P := y_P
    clear y_X y_Y y_Z y_G y_H y_I y_P
    go_wp2
    go_ret
    exact ⟨rfl, hB⟩
end Go.Proofs.Ytofbcgehemclbaa

