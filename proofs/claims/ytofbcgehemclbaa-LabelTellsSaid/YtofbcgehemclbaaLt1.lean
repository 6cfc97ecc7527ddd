/- LabelTells: the walk. -/
import Derived.Test.YtofbcgehemclbaaLl1
namespace Go.Proofs.Ytofbcgehemclbaa
open Go.RowKit Bm
set_option maxRecDepth 100000 in
set_option maxHeartbeats 2000000 in
theorem labelTells_walk (a0 : Option Addr) (len0 cap0 : Nat) (z0 : List Int) (a1 : Option Addr) (len1 cap1 : Nat) (z1 : List Int) (w : World)
    (w0 : IsRow .u8 w a0 len0 cap0 z0) (w1 : IsRow .u8 w a1 len1 cap1 z1) :
    Calls Try.prog 6 #[.slice a0 len0 cap0, .slice a1 len1 cap1] w fun e w' => e = .returned (.bool true) ∧ Below w.heap.size w w' := by
  have hB := Below.refl w.heap.size w
  obtain ⟨xs, hl0, hr0, hz0⟩ := rd_of_row w0
  obtain ⟨ys, hl1, hr1, hz1⟩ := rd_of_row w1
  clear w0 w1
  by_cases hs : (1000 : Int) < (len0 : Int) + len1
  · clear hl0 hl1
    go_enter Try.func6, Try.ntmps6
    go_wp2_with fail
    refine (awake_any _).mono ?_
    rintro e w1 ⟨rfl, hb1⟩
    have hB2 : Below w.heap.size w w1 := by first | exact chain0 hB hb1 | exact chain1 hB hb1 | exact chain2 hB hb1 | exact chain3 hB hb1
    clear hB
    have hB := hB2
    clear hB2
    go_wp2
    go_ret
    exact ⟨rfl, hB⟩
  · have hs' : (len0 : Int) + len1 ≤ 1000 := by omega
    have hz0' : len0 ≤ 1000 := by omega
    have hz1' : len1 ≤ 1000 := by omega
    have hb0 : (len0 : Int) ≤ 9223372036854775806 := by omega
    have hb0' : (len0 : Int) ≤ 9223372036854775807 := by omega
    have hb1' : (len1 : Int) ≤ 9223372036854775807 := by omega
    have Hb0 := hide hb0
    have Hb0' := hide hb0'
    have Hb1' := hide hb1'
    have Hl0 : Hid (len0 = xs.length) := hl0.symm
    have Hl1 : Hid (len1 = ys.length) := hl1.symm
    obtain ⟨rq, hrq⟩ : ∃ q, q = rtB xs := ⟨_, rfl⟩
    obtain ⟨oq, hoq⟩ : ∃ q, q = okP xs := ⟨_, rfl⟩
    obtain ⟨lq, hlq⟩ : ∃ q : Int, q = (ssB xs).length := ⟨_, rfl⟩
    obtain ⟨ps, hps⟩ : ∃ q, q = parB xs := ⟨_, rfl⟩
    obtain ⟨pm, hpm⟩ : ∃ m, m = ps.length := ⟨_, rfl⟩
    obtain ⟨af, haf⟩ : ∃ q, q = aftB xs := ⟨_, rfl⟩
    obtain ⟨am, ham⟩ : ∃ m, m = af.length := ⟨_, rfl⟩
    obtain ⟨cq, hcq⟩ : ∃ q, q = Lib.compareBytes xs ys := ⟨_, rfl⟩
    obtain ⟨vq, hvq⟩ : ∃ q, q = abvB xs ys := ⟨_, rfl⟩
    have hpm1 : pm ≤ 1048576 := by rw [hpm, hps]; have := parB_le xs; omega
    have ham1 : am ≤ 1048576 := by rw [ham, haf]; have := aftB_le xs; omega
    have Hrq := hide hrq
    have Hoq := hide hoq
    have Hlq := hide hlq
    have Hps := hide hps
    have Hpm := hide hpm
    have Haf := hide haf
    have Ham := hide ham
    have Hcq := hide hcq
    have Hvq := hide hvq
    clear hs hl0 hl1 hrq hoq hlq hps hpm haf ham hcq hvq hb0 hb0' hb1'
    go_enter Try.func6, Try.ntmps6
    go_wp2_with fail
    refine (awake_any _).mono ?_
    rintro e w1 ⟨rfl, hb1⟩
    have hB2 : Below w.heap.size w w1 := by first | exact chain0 hB hb1 | exact chain1 hB hb1 | exact chain2 hB hb1 | exact chain3 hB hb1
    clear hB
    have hB := hB2
    clear hB2
    have x_X : RdB w1 a0 xs := hr0.keep hB
    have x_Y : RdB w1 a1 ys := hr1.keep hB
    clear hr0 hr1
    go_wp2_with fail
    refine (lentR a0 xs len0 cap0 _ x_X Hl0.out (by omega)).mono ?_
    rintro e w2 ⟨g0, rfl, k0, hb2⟩
    have hB2 : Below w.heap.size w w2 := by first | exact chain0 hB hb2 | exact chain1 hB hb2 | exact chain2 hB hb2 | exact chain3 hB hb2
    clear hB
    have hB := hB2
    clear hB2
    have y_X : RdB w2 a0 xs := by first | exact x_X.keep hb2 | exact (x_X.alloc _).keep hb2 | exact ((x_X.alloc _).alloc _).keep hb2 | exact (((x_X.alloc _).alloc _).alloc _).keep hb2
    have y_Y : RdB w2 a1 ys := by first | exact x_Y.keep hb2 | exact (x_Y.alloc _).keep hb2 | exact ((x_Y.alloc _).alloc _).keep hb2 | exact (((x_Y.alloc _).alloc _).alloc _).keep hb2
    clear x_X x_Y
    have x_X := y_X
    have x_Y := y_Y
    clear y_X y_Y
    have x_G : Rw w2 g0 (lent xs) := k0
    clear k0
    go_wp2_with fail
    refine (lentR a1 ys len1 cap1 _ x_Y Hl1.out (by omega)).mono ?_
    rintro e w3 ⟨g1, rfl, k1, hb3⟩
    have hB2 : Below w.heap.size w w3 := by first | exact chain0 hB hb3 | exact chain1 hB hb3 | exact chain2 hB hb3 | exact chain3 hB hb3
    clear hB
    have hB := hB2
    clear hB2
    have y_X : RdB w3 a0 xs := by first | exact x_X.keep hb3 | exact (x_X.alloc _).keep hb3 | exact ((x_X.alloc _).alloc _).keep hb3 | exact (((x_X.alloc _).alloc _).alloc _).keep hb3
    have y_Y : RdB w3 a1 ys := by first | exact x_Y.keep hb3 | exact (x_Y.alloc _).keep hb3 | exact ((x_Y.alloc _).alloc _).keep hb3 | exact (((x_Y.alloc _).alloc _).alloc _).keep hb3
    have y_G : Rw w3 g0 (lent xs) := by first | exact x_G.keep hb3 | exact (x_G.alloc _).keep hb3 | exact ((x_G.alloc _).alloc _).keep hb3 | exact (((x_G.alloc _).alloc _).alloc _).keep hb3
    clear x_X x_Y x_G
    have x_X := y_X
    have x_Y := y_Y
    have x_G := y_G
    clear y_X y_Y y_G
    have x_H : Rw w3 g1 (lent ys) := k1
    clear k1
    go_wp2_with fail
    refine (parentG _ xs len0 _ _ oq ps pm (lent_rd x_G Hl0.out) Hl0.out Hb0'.out Hoq.out Hps.out Hpm.out).mono ?_
    rintro e w4 ⟨a4, c4, rfl, k4, hb4⟩
    have hB2 : Below w.heap.size w w4 := by first | exact chain0 hB hb4 | exact chain1 hB hb4 | exact chain2 hB hb4 | exact chain3 hB hb4
    clear hB
    have hB := hB2
    clear hB2
    have y_X : RdB w4 a0 xs := by first | exact x_X.keep hb4 | exact (x_X.alloc _).keep hb4 | exact ((x_X.alloc _).alloc _).keep hb4 | exact (((x_X.alloc _).alloc _).alloc _).keep hb4
    have y_Y : RdB w4 a1 ys := by first | exact x_Y.keep hb4 | exact (x_Y.alloc _).keep hb4 | exact ((x_Y.alloc _).alloc _).keep hb4 | exact (((x_Y.alloc _).alloc _).alloc _).keep hb4
    have y_G : Rw w4 g0 (lent xs) := by first | exact x_G.keep hb4 | exact (x_G.alloc _).keep hb4 | exact ((x_G.alloc _).alloc _).keep hb4 | exact (((x_G.alloc _).alloc _).alloc _).keep hb4
    have y_H : Rw w4 g1 (lent ys) := by first | exact x_H.keep hb4 | exact (x_H.alloc _).keep hb4 | exact ((x_H.alloc _).alloc _).keep hb4 | exact (((x_H.alloc _).alloc _).alloc _).keep hb4
    clear x_X x_Y x_G x_H
    have x_X := y_X
    have x_Y := y_Y
    have x_G := y_G
    have x_H := y_H
    clear y_X y_Y y_G y_H
    have x_P : RdB w4 a4 ps := k4
    clear k4
    go_wp2_with fail
    refine (rparentG a0 xs len0 cap0 _ oq ps pm x_X Hl0.out Hb0'.out Hoq.out Hps.out Hpm.out).mono ?_
    rintro e w5 ⟨a5, c5, rfl, k5, hb5⟩
    have hB2 : Below w.heap.size w w5 := by first | exact chain0 hB hb5 | exact chain1 hB hb5 | exact chain2 hB hb5 | exact chain3 hB hb5
    clear hB
    have hB := hB2
    clear hB2
    have y_X : RdB w5 a0 xs := by first | exact x_X.keep hb5 | exact (x_X.alloc _).keep hb5 | exact ((x_X.alloc _).alloc _).keep hb5 | exact (((x_X.alloc _).alloc _).alloc _).keep hb5
    have y_Y : RdB w5 a1 ys := by first | exact x_Y.keep hb5 | exact (x_Y.alloc _).keep hb5 | exact ((x_Y.alloc _).alloc _).keep hb5 | exact (((x_Y.alloc _).alloc _).alloc _).keep hb5
    have y_G : Rw w5 g0 (lent xs) := by first | exact x_G.keep hb5 | exact (x_G.alloc _).keep hb5 | exact ((x_G.alloc _).alloc _).keep hb5 | exact (((x_G.alloc _).alloc _).alloc _).keep hb5
    have y_H : Rw w5 g1 (lent ys) := by first | exact x_H.keep hb5 | exact (x_H.alloc _).keep hb5 | exact ((x_H.alloc _).alloc _).keep hb5 | exact (((x_H.alloc _).alloc _).alloc _).keep hb5
    have y_P : RdB w5 a4 ps := by first | exact x_P.keep hb5 | exact (x_P.alloc _).keep hb5 | exact ((x_P.alloc _).alloc _).keep hb5 | exact (((x_P.alloc _).alloc _).alloc _).keep hb5
    clear x_X x_Y x_G x_H x_P
    have x_X := y_X
    have x_Y := y_Y
    have x_G := y_G
    have x_H := y_H
    have x_P := y_P
    clear y_X y_Y y_G y_H y_P
    have x_Q : RdB w5 a5 ps := k5
    clear k5
    go_wp2_with fail
    refine (rightG _ xs len0 _ _ rq (lent_rd x_G Hl0.out) Hl0.out Hb0'.out Hrq.out).mono ?_
    rintro e w6 ⟨rfl, hb6⟩
    have hB2 : Below w.heap.size w w6 := by first | exact chain0 hB hb6 | exact chain1 hB hb6 | exact chain2 hB hb6 | exact chain3 hB hb6
    clear hB
    have hB := hB2
    clear hB2
    have y_X : RdB w6 a0 xs := by first | exact x_X.keep hb6 | exact (x_X.alloc _).keep hb6 | exact ((x_X.alloc _).alloc _).keep hb6 | exact (((x_X.alloc _).alloc _).alloc _).keep hb6
    have y_Y : RdB w6 a1 ys := by first | exact x_Y.keep hb6 | exact (x_Y.alloc _).keep hb6 | exact ((x_Y.alloc _).alloc _).keep hb6 | exact (((x_Y.alloc _).alloc _).alloc _).keep hb6
    have y_G : Rw w6 g0 (lent xs) := by first | exact x_G.keep hb6 | exact (x_G.alloc _).keep hb6 | exact ((x_G.alloc _).alloc _).keep hb6 | exact (((x_G.alloc _).alloc _).alloc _).keep hb6
    have y_H : Rw w6 g1 (lent ys) := by first | exact x_H.keep hb6 | exact (x_H.alloc _).keep hb6 | exact ((x_H.alloc _).alloc _).keep hb6 | exact (((x_H.alloc _).alloc _).alloc _).keep hb6
    have y_P : RdB w6 a4 ps := by first | exact x_P.keep hb6 | exact (x_P.alloc _).keep hb6 | exact ((x_P.alloc _).alloc _).keep hb6 | exact (((x_P.alloc _).alloc _).alloc _).keep hb6
    have y_Q : RdB w6 a5 ps := by first | exact x_Q.keep hb6 | exact (x_Q.alloc _).keep hb6 | exact ((x_Q.alloc _).alloc _).keep hb6 | exact (((x_Q.alloc _).alloc _).alloc _).keep hb6
    clear x_X x_Y x_G x_H x_P x_Q
    have x_X := y_X
    have x_Y := y_Y
    have x_G := y_G
    have x_H := y_H
    have x_P := y_P
    have x_Q := y_Q
    clear y_X y_Y y_G y_H y_P y_Q
    go_wp2_with fail
    refine (rrightG a0 xs len0 cap0 _ rq x_X Hl0.out Hb0'.out Hrq.out).mono ?_
    rintro e w7 ⟨rfl, hb7⟩
    have hB2 : Below w.heap.size w w7 := by first | exact chain0 hB hb7 | exact chain1 hB hb7 | exact chain2 hB hb7 | exact chain3 hB hb7
    clear hB
    have hB := hB2
    clear hB2
    have y_X : RdB w7 a0 xs := by first | exact x_X.keep hb7 | exact (x_X.alloc _).keep hb7 | exact ((x_X.alloc _).alloc _).keep hb7 | exact (((x_X.alloc _).alloc _).alloc _).keep hb7
    have y_Y : RdB w7 a1 ys := by first | exact x_Y.keep hb7 | exact (x_Y.alloc _).keep hb7 | exact ((x_Y.alloc _).alloc _).keep hb7 | exact (((x_Y.alloc _).alloc _).alloc _).keep hb7
    have y_G : Rw w7 g0 (lent xs) := by first | exact x_G.keep hb7 | exact (x_G.alloc _).keep hb7 | exact ((x_G.alloc _).alloc _).keep hb7 | exact (((x_G.alloc _).alloc _).alloc _).keep hb7
    have y_H : Rw w7 g1 (lent ys) := by first | exact x_H.keep hb7 | exact (x_H.alloc _).keep hb7 | exact ((x_H.alloc _).alloc _).keep hb7 | exact (((x_H.alloc _).alloc _).alloc _).keep hb7
    have y_P : RdB w7 a4 ps := by first | exact x_P.keep hb7 | exact (x_P.alloc _).keep hb7 | exact ((x_P.alloc _).alloc _).keep hb7 | exact (((x_P.alloc _).alloc _).alloc _).keep hb7
    have y_Q : RdB w7 a5 ps := by first | exact x_Q.keep hb7 | exact (x_Q.alloc _).keep hb7 | exact ((x_Q.alloc _).alloc _).keep hb7 | exact (((x_Q.alloc _).alloc _).alloc _).keep hb7
    clear x_X x_Y x_G x_H x_P x_Q
    have x_X := y_X
    have x_Y := y_Y
    have x_G := y_G
    have x_H := y_H
    have x_P := y_P
    have x_Q := y_Q
    clear y_X y_Y y_G y_H y_P y_Q
    go_wp2_with fail
    refine (sameT a4 a5 ps pm c4 pm c5 _ x_P x_Q Hpm.out Hpm.out hpm1).mono ?_
    rintro e w8 ⟨rfl, hb8⟩
    have hB2 : Below w.heap.size w w8 := by first | exact chain0 hB hb8 | exact chain1 hB hb8 | exact chain2 hB hb8 | exact chain3 hB hb8
    clear hB
    have hB := hB2
    clear hB2
    have y_X : RdB w8 a0 xs := by first | exact x_X.keep hb8 | exact (x_X.alloc _).keep hb8 | exact ((x_X.alloc _).alloc _).keep hb8 | exact (((x_X.alloc _).alloc _).alloc _).keep hb8
    have y_Y : RdB w8 a1 ys := by first | exact x_Y.keep hb8 | exact (x_Y.alloc _).keep hb8 | exact ((x_Y.alloc _).alloc _).keep hb8 | exact (((x_Y.alloc _).alloc _).alloc _).keep hb8
    have y_G : Rw w8 g0 (lent xs) := by first | exact x_G.keep hb8 | exact (x_G.alloc _).keep hb8 | exact ((x_G.alloc _).alloc _).keep hb8 | exact (((x_G.alloc _).alloc _).alloc _).keep hb8
    have y_H : Rw w8 g1 (lent ys) := by first | exact x_H.keep hb8 | exact (x_H.alloc _).keep hb8 | exact ((x_H.alloc _).alloc _).keep hb8 | exact (((x_H.alloc _).alloc _).alloc _).keep hb8
    have y_P : RdB w8 a4 ps := by first | exact x_P.keep hb8 | exact (x_P.alloc _).keep hb8 | exact ((x_P.alloc _).alloc _).keep hb8 | exact (((x_P.alloc _).alloc _).alloc _).keep hb8
    have y_Q : RdB w8 a5 ps := by first | exact x_Q.keep hb8 | exact (x_Q.alloc _).keep hb8 | exact ((x_Q.alloc _).alloc _).keep hb8 | exact (((x_Q.alloc _).alloc _).alloc _).keep hb8
    clear x_X x_Y x_G x_H x_P x_Q
    have x_X := y_X
    have x_Y := y_Y
    have x_G := y_G
    have x_H := y_H
    have x_P := y_P
    have x_Q := y_Q
    clear y_X y_Y y_G y_H y_P y_Q
    go_wp2_with fail
    refine (levelG _ xs len0 _ _ lq (lent_rd x_G Hl0.out) Hl0.out Hb0'.out Hlq.out).mono ?_
    rintro e w9 ⟨rfl, hb9⟩
    have hB2 : Below w.heap.size w w9 := by first | exact chain0 hB hb9 | exact chain1 hB hb9 | exact chain2 hB hb9 | exact chain3 hB hb9
    clear hB
    have hB := hB2
    clear hB2
    have y_X : RdB w9 a0 xs := by first | exact x_X.keep hb9 | exact (x_X.alloc _).keep hb9 | exact ((x_X.alloc _).alloc _).keep hb9 | exact (((x_X.alloc _).alloc _).alloc _).keep hb9
    have y_Y : RdB w9 a1 ys := by first | exact x_Y.keep hb9 | exact (x_Y.alloc _).keep hb9 | exact ((x_Y.alloc _).alloc _).keep hb9 | exact (((x_Y.alloc _).alloc _).alloc _).keep hb9
    have y_G : Rw w9 g0 (lent xs) := by first | exact x_G.keep hb9 | exact (x_G.alloc _).keep hb9 | exact ((x_G.alloc _).alloc _).keep hb9 | exact (((x_G.alloc _).alloc _).alloc _).keep hb9
    have y_H : Rw w9 g1 (lent ys) := by first | exact x_H.keep hb9 | exact (x_H.alloc _).keep hb9 | exact ((x_H.alloc _).alloc _).keep hb9 | exact (((x_H.alloc _).alloc _).alloc _).keep hb9
    have y_P : RdB w9 a4 ps := by first | exact x_P.keep hb9 | exact (x_P.alloc _).keep hb9 | exact ((x_P.alloc _).alloc _).keep hb9 | exact (((x_P.alloc _).alloc _).alloc _).keep hb9
    have y_Q : RdB w9 a5 ps := by first | exact x_Q.keep hb9 | exact (x_Q.alloc _).keep hb9 | exact ((x_Q.alloc _).alloc _).keep hb9 | exact (((x_Q.alloc _).alloc _).alloc _).keep hb9
    clear x_X x_Y x_G x_H x_P x_Q
    have x_X := y_X
    have x_Y := y_Y
    have x_G := y_G
    have x_H := y_H
    have x_P := y_P
    have x_Q := y_Q
    clear y_X y_Y y_G y_H y_P y_Q
    go_wp2_with fail
    refine (rlevelG a0 xs len0 cap0 _ lq x_X Hl0.out Hb0'.out Hlq.out).mono ?_
    rintro e w10 ⟨rfl, hb10⟩
    have hB2 : Below w.heap.size w w10 := by first | exact chain0 hB hb10 | exact chain1 hB hb10 | exact chain2 hB hb10 | exact chain3 hB hb10
    clear hB
    have hB := hB2
    clear hB2
    have y_X : RdB w10 a0 xs := by first | exact x_X.keep hb10 | exact (x_X.alloc _).keep hb10 | exact ((x_X.alloc _).alloc _).keep hb10 | exact (((x_X.alloc _).alloc _).alloc _).keep hb10
    have y_Y : RdB w10 a1 ys := by first | exact x_Y.keep hb10 | exact (x_Y.alloc _).keep hb10 | exact ((x_Y.alloc _).alloc _).keep hb10 | exact (((x_Y.alloc _).alloc _).alloc _).keep hb10
    have y_G : Rw w10 g0 (lent xs) := by first | exact x_G.keep hb10 | exact (x_G.alloc _).keep hb10 | exact ((x_G.alloc _).alloc _).keep hb10 | exact (((x_G.alloc _).alloc _).alloc _).keep hb10
    have y_H : Rw w10 g1 (lent ys) := by first | exact x_H.keep hb10 | exact (x_H.alloc _).keep hb10 | exact ((x_H.alloc _).alloc _).keep hb10 | exact (((x_H.alloc _).alloc _).alloc _).keep hb10
    have y_P : RdB w10 a4 ps := by first | exact x_P.keep hb10 | exact (x_P.alloc _).keep hb10 | exact ((x_P.alloc _).alloc _).keep hb10 | exact (((x_P.alloc _).alloc _).alloc _).keep hb10
    have y_Q : RdB w10 a5 ps := by first | exact x_Q.keep hb10 | exact (x_Q.alloc _).keep hb10 | exact ((x_Q.alloc _).alloc _).keep hb10 | exact (((x_Q.alloc _).alloc _).alloc _).keep hb10
    clear x_X x_Y x_G x_H x_P x_Q
    have x_X := y_X
    have x_Y := y_Y
    have x_G := y_G
    have x_H := y_H
    have x_P := y_P
    have x_Q := y_Q
    clear y_X y_Y y_G y_H y_P y_Q
    go_wp2_with fail
    refine (afterG _ xs len0 _ _ af am (lent_rd x_G Hl0.out) Hl0.out Hb0'.out Haf.out Ham.out).mono ?_
    rintro e w11 ⟨a11, c11, rfl, k11, hb11⟩
    have hB2 : Below w.heap.size w w11 := by first | exact chain0 hB hb11 | exact chain1 hB hb11 | exact chain2 hB hb11 | exact chain3 hB hb11
    clear hB
    have hB := hB2
    clear hB2
    have y_X : RdB w11 a0 xs := by first | exact x_X.keep hb11 | exact (x_X.alloc _).keep hb11 | exact ((x_X.alloc _).alloc _).keep hb11 | exact (((x_X.alloc _).alloc _).alloc _).keep hb11
    have y_Y : RdB w11 a1 ys := by first | exact x_Y.keep hb11 | exact (x_Y.alloc _).keep hb11 | exact ((x_Y.alloc _).alloc _).keep hb11 | exact (((x_Y.alloc _).alloc _).alloc _).keep hb11
    have y_G : Rw w11 g0 (lent xs) := by first | exact x_G.keep hb11 | exact (x_G.alloc _).keep hb11 | exact ((x_G.alloc _).alloc _).keep hb11 | exact (((x_G.alloc _).alloc _).alloc _).keep hb11
    have y_H : Rw w11 g1 (lent ys) := by first | exact x_H.keep hb11 | exact (x_H.alloc _).keep hb11 | exact ((x_H.alloc _).alloc _).keep hb11 | exact (((x_H.alloc _).alloc _).alloc _).keep hb11
    have y_P : RdB w11 a4 ps := by first | exact x_P.keep hb11 | exact (x_P.alloc _).keep hb11 | exact ((x_P.alloc _).alloc _).keep hb11 | exact (((x_P.alloc _).alloc _).alloc _).keep hb11
    have y_Q : RdB w11 a5 ps := by first | exact x_Q.keep hb11 | exact (x_Q.alloc _).keep hb11 | exact ((x_Q.alloc _).alloc _).keep hb11 | exact (((x_Q.alloc _).alloc _).alloc _).keep hb11
    clear x_X x_Y x_G x_H x_P x_Q
    have x_X := y_X
    have x_Y := y_Y
    have x_G := y_G
    have x_H := y_H
    have x_P := y_P
    have x_Q := y_Q
    clear y_X y_Y y_G y_H y_P y_Q
    have x_A : RdB w11 a11 af := k11
    clear k11
    go_wp2_with fail
    refine (rafterG a0 xs len0 cap0 _ af am x_X Hl0.out Hb0'.out Haf.out Ham.out).mono ?_
    rintro e w12 ⟨a12, c12, rfl, k12, hb12⟩
    have hB2 : Below w.heap.size w w12 := by first | exact chain0 hB hb12 | exact chain1 hB hb12 | exact chain2 hB hb12 | exact chain3 hB hb12
    clear hB
    have hB := hB2
    clear hB2
    have y_X : RdB w12 a0 xs := by first | exact x_X.keep hb12 | exact (x_X.alloc _).keep hb12 | exact ((x_X.alloc _).alloc _).keep hb12 | exact (((x_X.alloc _).alloc _).alloc _).keep hb12
    have y_Y : RdB w12 a1 ys := by first | exact x_Y.keep hb12 | exact (x_Y.alloc _).keep hb12 | exact ((x_Y.alloc _).alloc _).keep hb12 | exact (((x_Y.alloc _).alloc _).alloc _).keep hb12
    have y_G : Rw w12 g0 (lent xs) := by first | exact x_G.keep hb12 | exact (x_G.alloc _).keep hb12 | exact ((x_G.alloc _).alloc _).keep hb12 | exact (((x_G.alloc _).alloc _).alloc _).keep hb12
    have y_H : Rw w12 g1 (lent ys) := by first | exact x_H.keep hb12 | exact (x_H.alloc _).keep hb12 | exact ((x_H.alloc _).alloc _).keep hb12 | exact (((x_H.alloc _).alloc _).alloc _).keep hb12
    have y_P : RdB w12 a4 ps := by first | exact x_P.keep hb12 | exact (x_P.alloc _).keep hb12 | exact ((x_P.alloc _).alloc _).keep hb12 | exact (((x_P.alloc _).alloc _).alloc _).keep hb12
    have y_Q : RdB w12 a5 ps := by first | exact x_Q.keep hb12 | exact (x_Q.alloc _).keep hb12 | exact ((x_Q.alloc _).alloc _).keep hb12 | exact (((x_Q.alloc _).alloc _).alloc _).keep hb12
    have y_A : RdB w12 a11 af := by first | exact x_A.keep hb12 | exact (x_A.alloc _).keep hb12 | exact ((x_A.alloc _).alloc _).keep hb12 | exact (((x_A.alloc _).alloc _).alloc _).keep hb12
    clear x_X x_Y x_G x_H x_P x_Q x_A
    have x_X := y_X
    have x_Y := y_Y
    have x_G := y_G
    have x_H := y_H
    have x_P := y_P
    have x_Q := y_Q
    have x_A := y_A
    clear y_X y_Y y_G y_H y_P y_Q y_A
    go_wp2_with fail
    refine (sameT a11 a12 af am c11 am c12 _ x_A k12 Ham.out Ham.out ham1).mono ?_
    rintro e w13 ⟨rfl, hb13⟩
    have hB2 : Below w.heap.size w w13 := by first | exact chain0 hB hb13 | exact chain1 hB hb13 | exact chain2 hB hb13 | exact chain3 hB hb13
    clear hB
    have hB := hB2
    clear hB2
    have y_X : RdB w13 a0 xs := by first | exact x_X.keep hb13 | exact (x_X.alloc _).keep hb13 | exact ((x_X.alloc _).alloc _).keep hb13 | exact (((x_X.alloc _).alloc _).alloc _).keep hb13
    have y_Y : RdB w13 a1 ys := by first | exact x_Y.keep hb13 | exact (x_Y.alloc _).keep hb13 | exact ((x_Y.alloc _).alloc _).keep hb13 | exact (((x_Y.alloc _).alloc _).alloc _).keep hb13
    have y_G : Rw w13 g0 (lent xs) := by first | exact x_G.keep hb13 | exact (x_G.alloc _).keep hb13 | exact ((x_G.alloc _).alloc _).keep hb13 | exact (((x_G.alloc _).alloc _).alloc _).keep hb13
    have y_H : Rw w13 g1 (lent ys) := by first | exact x_H.keep hb13 | exact (x_H.alloc _).keep hb13 | exact ((x_H.alloc _).alloc _).keep hb13 | exact (((x_H.alloc _).alloc _).alloc _).keep hb13
    have y_P : RdB w13 a4 ps := by first | exact x_P.keep hb13 | exact (x_P.alloc _).keep hb13 | exact ((x_P.alloc _).alloc _).keep hb13 | exact (((x_P.alloc _).alloc _).alloc _).keep hb13
    have y_Q : RdB w13 a5 ps := by first | exact x_Q.keep hb13 | exact (x_Q.alloc _).keep hb13 | exact ((x_Q.alloc _).alloc _).keep hb13 | exact (((x_Q.alloc _).alloc _).alloc _).keep hb13
    have y_A : RdB w13 a11 af := by first | exact x_A.keep hb13 | exact (x_A.alloc _).keep hb13 | exact ((x_A.alloc _).alloc _).keep hb13 | exact (((x_A.alloc _).alloc _).alloc _).keep hb13
    clear x_X x_Y x_G x_H x_P x_Q x_A
    have x_X := y_X
    have x_Y := y_Y
    have x_G := y_G
    have x_H := y_H
    have x_P := y_P
    have x_Q := y_Q
    have x_A := y_A
    clear y_X y_Y y_G y_H y_P y_Q y_A
    clear k12
    go_wp2_with fail
    refine (compareL _ _ xs ys len0 _ len1 _ cq _ (lent_rd x_G Hl0.out) (lent_rd x_H Hl1.out) Hl0.out Hl1.out Hcq.out).mono ?_
    rintro e w14 ⟨rfl, hb14⟩
    have hB2 : Below w.heap.size w w14 := by first | exact chain0 hB hb14 | exact chain1 hB hb14 | exact chain2 hB hb14 | exact chain3 hB hb14
    clear hB
    have hB := hB2
    clear hB2
    have y_X : RdB w14 a0 xs := by first | exact x_X.keep hb14 | exact (x_X.alloc _).keep hb14 | exact ((x_X.alloc _).alloc _).keep hb14 | exact (((x_X.alloc _).alloc _).alloc _).keep hb14
    have y_Y : RdB w14 a1 ys := by first | exact x_Y.keep hb14 | exact (x_Y.alloc _).keep hb14 | exact ((x_Y.alloc _).alloc _).keep hb14 | exact (((x_Y.alloc _).alloc _).alloc _).keep hb14
    have y_G : Rw w14 g0 (lent xs) := by first | exact x_G.keep hb14 | exact (x_G.alloc _).keep hb14 | exact ((x_G.alloc _).alloc _).keep hb14 | exact (((x_G.alloc _).alloc _).alloc _).keep hb14
    have y_H : Rw w14 g1 (lent ys) := by first | exact x_H.keep hb14 | exact (x_H.alloc _).keep hb14 | exact ((x_H.alloc _).alloc _).keep hb14 | exact (((x_H.alloc _).alloc _).alloc _).keep hb14
    have y_P : RdB w14 a4 ps := by first | exact x_P.keep hb14 | exact (x_P.alloc _).keep hb14 | exact ((x_P.alloc _).alloc _).keep hb14 | exact (((x_P.alloc _).alloc _).alloc _).keep hb14
    have y_Q : RdB w14 a5 ps := by first | exact x_Q.keep hb14 | exact (x_Q.alloc _).keep hb14 | exact ((x_Q.alloc _).alloc _).keep hb14 | exact (((x_Q.alloc _).alloc _).alloc _).keep hb14
    have y_A : RdB w14 a11 af := by first | exact x_A.keep hb14 | exact (x_A.alloc _).keep hb14 | exact ((x_A.alloc _).alloc _).keep hb14 | exact (((x_A.alloc _).alloc _).alloc _).keep hb14
    clear x_X x_Y x_G x_H x_P x_Q x_A
    have x_X := y_X
    have x_Y := y_Y
    have x_G := y_G
    have x_H := y_H
    have x_P := y_P
    have x_Q := y_Q
    have x_A := y_A
    clear y_X y_Y y_G y_H y_P y_Q y_A
    go_wp2_with fail
    refine (rcompareL a0 a1 xs ys len0 cap0 len1 cap1 _ x_X x_Y Hl0.out Hl1.out Hb0.out cq Hcq.out).mono ?_
    rintro e w15 ⟨rfl, hb15⟩
    have hB2 : Below w.heap.size w w15 := by first | exact chain0 hB hb15 | exact chain1 hB hb15 | exact chain2 hB hb15 | exact chain3 hB hb15
    clear hB
    have hB := hB2
    clear hB2
    have y_X : RdB w15 a0 xs := by first | exact x_X.keep hb15 | exact (x_X.alloc _).keep hb15 | exact ((x_X.alloc _).alloc _).keep hb15 | exact (((x_X.alloc _).alloc _).alloc _).keep hb15
    have y_Y : RdB w15 a1 ys := by first | exact x_Y.keep hb15 | exact (x_Y.alloc _).keep hb15 | exact ((x_Y.alloc _).alloc _).keep hb15 | exact (((x_Y.alloc _).alloc _).alloc _).keep hb15
    have y_G : Rw w15 g0 (lent xs) := by first | exact x_G.keep hb15 | exact (x_G.alloc _).keep hb15 | exact ((x_G.alloc _).alloc _).keep hb15 | exact (((x_G.alloc _).alloc _).alloc _).keep hb15
    have y_H : Rw w15 g1 (lent ys) := by first | exact x_H.keep hb15 | exact (x_H.alloc _).keep hb15 | exact ((x_H.alloc _).alloc _).keep hb15 | exact (((x_H.alloc _).alloc _).alloc _).keep hb15
    have y_P : RdB w15 a4 ps := by first | exact x_P.keep hb15 | exact (x_P.alloc _).keep hb15 | exact ((x_P.alloc _).alloc _).keep hb15 | exact (((x_P.alloc _).alloc _).alloc _).keep hb15
    have y_Q : RdB w15 a5 ps := by first | exact x_Q.keep hb15 | exact (x_Q.alloc _).keep hb15 | exact ((x_Q.alloc _).alloc _).keep hb15 | exact (((x_Q.alloc _).alloc _).alloc _).keep hb15
    have y_A : RdB w15 a11 af := by first | exact x_A.keep hb15 | exact (x_A.alloc _).keep hb15 | exact ((x_A.alloc _).alloc _).keep hb15 | exact (((x_A.alloc _).alloc _).alloc _).keep hb15
    clear x_X x_Y x_G x_H x_P x_Q x_A
    have x_X := y_X
    have x_Y := y_Y
    have x_G := y_G
    have x_H := y_H
    have x_P := y_P
    have x_Q := y_Q
    have x_A := y_A
    clear y_X y_Y y_G y_H y_P y_Q y_A
    go_wp2_with fail
    refine (aboveG _ _ xs ys len0 _ len1 _ vq _ (lent_rd x_G Hl0.out) (lent_rd x_H Hl1.out) Hl0.out Hl1.out Hb0'.out Hb1'.out Hvq.out).mono ?_
    rintro e w16 ⟨rfl, hb16⟩
    have hB2 : Below w.heap.size w w16 := by first | exact chain0 hB hb16 | exact chain1 hB hb16 | exact chain2 hB hb16 | exact chain3 hB hb16
    clear hB
    have hB := hB2
    clear hB2
    have y_X : RdB w16 a0 xs := by first | exact x_X.keep hb16 | exact (x_X.alloc _).keep hb16 | exact ((x_X.alloc _).alloc _).keep hb16 | exact (((x_X.alloc _).alloc _).alloc _).keep hb16
    have y_Y : RdB w16 a1 ys := by first | exact x_Y.keep hb16 | exact (x_Y.alloc _).keep hb16 | exact ((x_Y.alloc _).alloc _).keep hb16 | exact (((x_Y.alloc _).alloc _).alloc _).keep hb16
    have y_G : Rw w16 g0 (lent xs) := by first | exact x_G.keep hb16 | exact (x_G.alloc _).keep hb16 | exact ((x_G.alloc _).alloc _).keep hb16 | exact (((x_G.alloc _).alloc _).alloc _).keep hb16
    have y_H : Rw w16 g1 (lent ys) := by first | exact x_H.keep hb16 | exact (x_H.alloc _).keep hb16 | exact ((x_H.alloc _).alloc _).keep hb16 | exact (((x_H.alloc _).alloc _).alloc _).keep hb16
    have y_P : RdB w16 a4 ps := by first | exact x_P.keep hb16 | exact (x_P.alloc _).keep hb16 | exact ((x_P.alloc _).alloc _).keep hb16 | exact (((x_P.alloc _).alloc _).alloc _).keep hb16
    have y_Q : RdB w16 a5 ps := by first | exact x_Q.keep hb16 | exact (x_Q.alloc _).keep hb16 | exact ((x_Q.alloc _).alloc _).keep hb16 | exact (((x_Q.alloc _).alloc _).alloc _).keep hb16
    have y_A : RdB w16 a11 af := by first | exact x_A.keep hb16 | exact (x_A.alloc _).keep hb16 | exact ((x_A.alloc _).alloc _).keep hb16 | exact (((x_A.alloc _).alloc _).alloc _).keep hb16
    clear x_X x_Y x_G x_H x_P x_Q x_A
    have x_X := y_X
    have x_Y := y_Y
    have x_G := y_G
    have x_H := y_H
    have x_P := y_P
    have x_Q := y_Q
    have x_A := y_A
    clear y_X y_Y y_G y_H y_P y_Q y_A
    go_wp2_with fail
    refine (raboveG a0 a1 xs ys len0 cap0 len1 cap1 vq _ x_X x_Y Hl0.out Hl1.out Hb0'.out Hb1'.out Hvq.out).mono ?_
    rintro e w17 ⟨rfl, hb17⟩
    have hB2 : Below w.heap.size w w17 := by first | exact chain0 hB hb17 | exact chain1 hB hb17 | exact chain2 hB hb17 | exact chain3 hB hb17
    clear hB
    have hB := hB2
    clear hB2
    have y_X : RdB w17 a0 xs := by first | exact x_X.keep hb17 | exact (x_X.alloc _).keep hb17 | exact ((x_X.alloc _).alloc _).keep hb17 | exact (((x_X.alloc _).alloc _).alloc _).keep hb17
    have y_Y : RdB w17 a1 ys := by first | exact x_Y.keep hb17 | exact (x_Y.alloc _).keep hb17 | exact ((x_Y.alloc _).alloc _).keep hb17 | exact (((x_Y.alloc _).alloc _).alloc _).keep hb17
    have y_G : Rw w17 g0 (lent xs) := by first | exact x_G.keep hb17 | exact (x_G.alloc _).keep hb17 | exact ((x_G.alloc _).alloc _).keep hb17 | exact (((x_G.alloc _).alloc _).alloc _).keep hb17
    have y_H : Rw w17 g1 (lent ys) := by first | exact x_H.keep hb17 | exact (x_H.alloc _).keep hb17 | exact ((x_H.alloc _).alloc _).keep hb17 | exact (((x_H.alloc _).alloc _).alloc _).keep hb17
    have y_P : RdB w17 a4 ps := by first | exact x_P.keep hb17 | exact (x_P.alloc _).keep hb17 | exact ((x_P.alloc _).alloc _).keep hb17 | exact (((x_P.alloc _).alloc _).alloc _).keep hb17
    have y_Q : RdB w17 a5 ps := by first | exact x_Q.keep hb17 | exact (x_Q.alloc _).keep hb17 | exact ((x_Q.alloc _).alloc _).keep hb17 | exact (((x_Q.alloc _).alloc _).alloc _).keep hb17
    have y_A : RdB w17 a11 af := by first | exact x_A.keep hb17 | exact (x_A.alloc _).keep hb17 | exact ((x_A.alloc _).alloc _).keep hb17 | exact (((x_A.alloc _).alloc _).alloc _).keep hb17
    clear x_X x_Y x_G x_H x_P x_Q x_A
    have x_X := y_X
    have x_Y := y_Y
    have x_G := y_G
    have x_H := y_H
    have x_P := y_P
    have x_Q := y_Q
    have x_A := y_A
    clear y_X y_Y y_G y_H y_P y_Q y_A
    go_wp2_with fail
    refine (kept_true a0 xs g0 len0 cap0 _ x_G x_X Hl0.out (by omega)).mono ?_
    rintro e w18 ⟨rfl, hb18⟩
    have hB2 : Below w.heap.size w w18 := by first | exact chain0 hB hb18 | exact chain1 hB hb18 | exact chain2 hB hb18 | exact chain3 hB hb18
    clear hB
    have hB := hB2
    clear hB2
    have y_X : RdB w18 a0 xs := by first | exact x_X.keep hb18 | exact (x_X.alloc _).keep hb18 | exact ((x_X.alloc _).alloc _).keep hb18 | exact (((x_X.alloc _).alloc _).alloc _).keep hb18
    have y_Y : RdB w18 a1 ys := by first | exact x_Y.keep hb18 | exact (x_Y.alloc _).keep hb18 | exact ((x_Y.alloc _).alloc _).keep hb18 | exact (((x_Y.alloc _).alloc _).alloc _).keep hb18
    have y_G : Rw w18 g0 (lent xs) := by first | exact x_G.keep hb18 | exact (x_G.alloc _).keep hb18 | exact ((x_G.alloc _).alloc _).keep hb18 | exact (((x_G.alloc _).alloc _).alloc _).keep hb18
    have y_H : Rw w18 g1 (lent ys) := by first | exact x_H.keep hb18 | exact (x_H.alloc _).keep hb18 | exact ((x_H.alloc _).alloc _).keep hb18 | exact (((x_H.alloc _).alloc _).alloc _).keep hb18
    have y_P : RdB w18 a4 ps := by first | exact x_P.keep hb18 | exact (x_P.alloc _).keep hb18 | exact ((x_P.alloc _).alloc _).keep hb18 | exact (((x_P.alloc _).alloc _).alloc _).keep hb18
    have y_Q : RdB w18 a5 ps := by first | exact x_Q.keep hb18 | exact (x_Q.alloc _).keep hb18 | exact ((x_Q.alloc _).alloc _).keep hb18 | exact (((x_Q.alloc _).alloc _).alloc _).keep hb18
    have y_A : RdB w18 a11 af := by first | exact x_A.keep hb18 | exact (x_A.alloc _).keep hb18 | exact ((x_A.alloc _).alloc _).keep hb18 | exact (((x_A.alloc _).alloc _).alloc _).keep hb18
    clear x_X x_Y x_G x_H x_P x_Q x_A
    have x_X := y_X
    have x_Y := y_Y
    have x_G := y_G
    have x_H := y_H
    have x_P := y_P
    have x_Q := y_Q
    have x_A := y_A
    clear y_X y_Y y_G y_H y_P y_Q y_A
    go_wp2_with fail
    refine (kept_true a1 ys g1 len1 cap1 _ x_H x_Y Hl1.out (by omega)).mono ?_
    rintro e w19 ⟨rfl, hb19⟩
    have hB2 : Below w.heap.size w w19 := by first | exact chain0 hB hb19 | exact chain1 hB hb19 | exact chain2 hB hb19 | exact chain3 hB hb19
    clear hB
    have hB := hB2
    clear hB2
    have y_X : RdB w19 a0 xs := by first | exact x_X.keep hb19 | exact (x_X.alloc _).keep hb19 | exact ((x_X.alloc _).alloc _).keep hb19 | exact (((x_X.alloc _).alloc _).alloc _).keep hb19
    have y_Y : RdB w19 a1 ys := by first | exact x_Y.keep hb19 | exact (x_Y.alloc _).keep hb19 | exact ((x_Y.alloc _).alloc _).keep hb19 | exact (((x_Y.alloc _).alloc _).alloc _).keep hb19
    have y_G : Rw w19 g0 (lent xs) := by first | exact x_G.keep hb19 | exact (x_G.alloc _).keep hb19 | exact ((x_G.alloc _).alloc _).keep hb19 | exact (((x_G.alloc _).alloc _).alloc _).keep hb19
    have y_H : Rw w19 g1 (lent ys) := by first | exact x_H.keep hb19 | exact (x_H.alloc _).keep hb19 | exact ((x_H.alloc _).alloc _).keep hb19 | exact (((x_H.alloc _).alloc _).alloc _).keep hb19
    have y_P : RdB w19 a4 ps := by first | exact x_P.keep hb19 | exact (x_P.alloc _).keep hb19 | exact ((x_P.alloc _).alloc _).keep hb19 | exact (((x_P.alloc _).alloc _).alloc _).keep hb19
    have y_Q : RdB w19 a5 ps := by first | exact x_Q.keep hb19 | exact (x_Q.alloc _).keep hb19 | exact ((x_Q.alloc _).alloc _).keep hb19 | exact (((x_Q.alloc _).alloc _).alloc _).keep hb19
    have y_A : RdB w19 a11 af := by first | exact x_A.keep hb19 | exact (x_A.alloc _).keep hb19 | exact ((x_A.alloc _).alloc _).keep hb19 | exact (((x_A.alloc _).alloc _).alloc _).keep hb19
    clear x_X x_Y x_G x_H x_P x_Q x_A
    have x_X := y_X
    have x_Y := y_Y
    have x_G := y_G
    have x_H := y_H
    have x_P := y_P
    have x_Q := y_Q
    have x_A := y_A
    clear y_X y_Y y_G y_H y_P y_Q y_A
    go_wp2
    go_ret
    exact ⟨rfl, hB⟩
end Go.Proofs.Ytofbcgehemclbaa

