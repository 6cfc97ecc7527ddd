/- LabelKids: the walk. -/
import Derived.Test.YtofbcgehemclbaaLl3
import Derived.Test.YtofbcgehemclbaaLb11
namespace Go.Proofs.Ytofbcgehemclbaa
open Go.RowKit Bm
set_option maxRecDepth 100000 in
set_option maxHeartbeats 2000000 in
theorem labelKids_walk (a0 : Option Addr) (len0 cap0 : Nat) (z0 : List Int) (a1 : Int) (w : World)
    (w0 : IsRow .u8 w a0 len0 cap0 z0) (w1 : (Lit.int IntKind.i64 a1).wf = true) :
    Calls Try.prog 3 #[.slice a0 len0 cap0, .int .i64 a1] w fun e w' => e = .returned (.bool true) ∧ Below w.heap.size w w' := by
  have hB := Below.refl w.heap.size w
  obtain ⟨xs, hl0, hr0, hz0⟩ := rd_of_row w0
  clear w0 w1
  by_cases hs : (1000 : Int) < (len0 : Int)
  · clear hl0
    go_enter Try.func3, Try.ntmps3
    go_wp2_with fail
    refine (awake_any _).mono ?_
    rintro e w1 ⟨rfl, hb1⟩
    have hB2 : Below w.heap.size w w1 := by first | exact chain0 hB hb1 | exact chain1 hB hb1 | exact chain2 hB hb1 | exact chain3 hB hb1
    clear hB
    have hB := hB2
    clear hB2
    go_wp2
    go_ret
    exact ⟨rfl, hB⟩
  · have hs' : (len0 : Int) ≤ 1000 := by omega
    have hz0' : len0 ≤ 1000 := by omega
    by_cases hx : 300 < a1 ∧ a1 ≤ 16384
    · obtain ⟨hx1, hx2⟩ := hx
      clear hl0 hs
      go_enter Try.func3, Try.ntmps3
      go_wp2_with fail
      refine (awake_any _).mono ?_
      rintro e w1 ⟨rfl, hb1⟩
      have hB2 : Below w.heap.size w w1 := by first | exact chain0 hB hb1 | exact chain1 hB hb1 | exact chain2 hB hb1 | exact chain3 hB hb1
      clear hB
      have hB := hB2
      clear hB2
      go_wp2
      go_ret
      exact ⟨rfl, hB⟩
    · have hx1 : a1 ≤ 300 ∨ 16384 < a1 := by omega
      have Hl0 : Hid (len0 = xs.length) := hl0.symm
      obtain ⟨q, bss, l, hl, hl', hall, h1, h2⟩ := kids_both xs a1 hx1
      have Hl := hide hl
      have H1 := hide h1
      have H2 := hide h2
      have Hall := hide hall
      clear hs hl0 hl h1 h2 hx hall
      rcases hx1 with hx1 | hx1
      · go_enter Try.func3, Try.ntmps3
        go_wp2_with fail
        refine (awake_any _).mono ?_
        rintro e w1 ⟨rfl, hb1⟩
        have hB2 : Below w.heap.size w w1 := by first | exact chain0 hB hb1 | exact chain1 hB hb1 | exact chain2 hB hb1 | exact chain3 hB hb1
        clear hB
        have hB := hB2
        clear hB2
        have x_X : RdB w1 a0 xs := hr0.keep hB
        clear hr0
        go_wp2_with fail
        refine (lentR a0 xs len0 cap0 _ x_X Hl0.out (by omega)).mono ?_
        rintro e w2 ⟨g0, rfl, k0, hb2⟩
        have hB2 : Below w.heap.size w w2 := by first | exact chain0 hB hb2 | exact chain1 hB hb2 | exact chain2 hB hb2 | exact chain3 hB hb2
        clear hB
        have hB := hB2
        clear hB2
        have y_X : RdB w2 a0 xs := by first | exact x_X.keep hb2 | exact (x_X.alloc _).keep hb2 | exact ((x_X.alloc _).alloc _).keep hb2 | exact (((x_X.alloc _).alloc _).alloc _).keep hb2
        clear x_X
        have x_X := y_X
        clear y_X
        have x_G : Rw w2 g0 (lent xs) := k0
        clear k0
        go_wp2_with fail
        refine (H1.out _ len0 _ _ (lent_rd x_G Hl0.out) Hl0.out (by omega)).mono ?_
        rintro e w3 ⟨a3, c3, rfl, k3, hb3⟩
        have hB2 : Below w.heap.size w w3 := by first | exact chain0 hB hb3 | exact chain1 hB hb3 | exact chain2 hB hb3 | exact chain3 hB hb3
        clear hB
        have hB := hB2
        clear hB2
        have y_X : RdB w3 a0 xs := by first | exact x_X.keep hb3 | exact (x_X.alloc _).keep hb3 | exact ((x_X.alloc _).alloc _).keep hb3 | exact (((x_X.alloc _).alloc _).alloc _).keep hb3
        have y_G : Rw w3 g0 (lent xs) := by first | exact x_G.keep hb3 | exact (x_G.alloc _).keep hb3 | exact ((x_G.alloc _).alloc _).keep hb3 | exact (((x_G.alloc _).alloc _).alloc _).keep hb3
        clear x_X x_G
        have x_X := y_X
        have x_G := y_G
        clear y_X y_G
        have x_P : RdP w3 a3 bss := k3
        clear k3
        go_wp2_with fail
        refine (H2.out _ len0 _ _ x_X Hl0.out (by omega)).mono ?_
        rintro e w4 ⟨a4, c4, rfl, k4, hb4⟩
        have hB2 : Below w.heap.size w w4 := by first | exact chain0 hB hb4 | exact chain1 hB hb4 | exact chain2 hB hb4 | exact chain3 hB hb4
        clear hB
        have hB := hB2
        clear hB2
        have y_X : RdB w4 a0 xs := by first | exact x_X.keep hb4 | exact (x_X.alloc _).keep hb4 | exact ((x_X.alloc _).alloc _).keep hb4 | exact (((x_X.alloc _).alloc _).alloc _).keep hb4
        have y_G : Rw w4 g0 (lent xs) := by first | exact x_G.keep hb4 | exact (x_G.alloc _).keep hb4 | exact ((x_G.alloc _).alloc _).keep hb4 | exact (((x_G.alloc _).alloc _).alloc _).keep hb4
        have y_P : RdP w4 a3 bss := by first | exact x_P.keep hb4 | exact (x_P.alloc _).keep hb4 | exact ((x_P.alloc _).alloc _).keep hb4 | exact (((x_P.alloc _).alloc _).alloc _).keep hb4
        clear x_X x_G x_P
        have x_X := y_X
        have x_G := y_G
        have x_P := y_P
        clear y_X y_G y_P
        go_wp2_with fail
        refine (samePieces_any a3 a4 bss l c3 l c4 _ x_P k4 Hl.out Hl.out hl' Hall.out).mono ?_
        rintro e w5 ⟨rfl, hb5⟩
        have hB2 : Below w.heap.size w w5 := by first | exact chain0 hB hb5 | exact chain1 hB hb5 | exact chain2 hB hb5 | exact chain3 hB hb5
        clear hB
        have hB := hB2
        clear hB2
        have y_X : RdB w5 a0 xs := by first | exact x_X.keep hb5 | exact (x_X.alloc _).keep hb5 | exact ((x_X.alloc _).alloc _).keep hb5 | exact (((x_X.alloc _).alloc _).alloc _).keep hb5
        have y_G : Rw w5 g0 (lent xs) := by first | exact x_G.keep hb5 | exact (x_G.alloc _).keep hb5 | exact ((x_G.alloc _).alloc _).keep hb5 | exact (((x_G.alloc _).alloc _).alloc _).keep hb5
        have y_P : RdP w5 a3 bss := by first | exact x_P.keep hb5 | exact (x_P.alloc _).keep hb5 | exact ((x_P.alloc _).alloc _).keep hb5 | exact (((x_P.alloc _).alloc _).alloc _).keep hb5
        clear x_X x_G x_P
        have x_X := y_X
        have x_G := y_G
        have x_P := y_P
        clear y_X y_G y_P
        clear k4
        go_wp2_with fail
        refine (kept_true a0 xs g0 len0 cap0 _ x_G x_X Hl0.out (by omega)).mono ?_
        rintro e w6 ⟨rfl, hb6⟩
        have hB2 : Below w.heap.size w w6 := by first | exact chain0 hB hb6 | exact chain1 hB hb6 | exact chain2 hB hb6 | exact chain3 hB hb6
        clear hB
        have hB := hB2
        clear hB2
        have y_X : RdB w6 a0 xs := by first | exact x_X.keep hb6 | exact (x_X.alloc _).keep hb6 | exact ((x_X.alloc _).alloc _).keep hb6 | exact (((x_X.alloc _).alloc _).alloc _).keep hb6
        have y_G : Rw w6 g0 (lent xs) := by first | exact x_G.keep hb6 | exact (x_G.alloc _).keep hb6 | exact ((x_G.alloc _).alloc _).keep hb6 | exact (((x_G.alloc _).alloc _).alloc _).keep hb6
        have y_P : RdP w6 a3 bss := by first | exact x_P.keep hb6 | exact (x_P.alloc _).keep hb6 | exact ((x_P.alloc _).alloc _).keep hb6 | exact (((x_P.alloc _).alloc _).alloc _).keep hb6
        clear x_X x_G x_P
        have x_X := y_X
        have x_G := y_G
        have x_P := y_P
        clear y_X y_G y_P
        go_wp2
        go_ret
        exact ⟨rfl, hB⟩
      · have hx2 : 300 < a1 := by omega
        have hx3 : ¬ a1 ≤ 16384 := by omega
        go_enter Try.func3, Try.ntmps3
        go_wp2_with fail
        refine (awake_any _).mono ?_
        rintro e w1 ⟨rfl, hb1⟩
        have hB2 : Below w.heap.size w w1 := by first | exact chain0 hB hb1 | exact chain1 hB hb1 | exact chain2 hB hb1 | exact chain3 hB hb1
        clear hB
        have hB := hB2
        clear hB2
        have x_X : RdB w1 a0 xs := hr0.keep hB
        clear hr0
        go_wp2_with fail
        refine (lentR a0 xs len0 cap0 _ x_X Hl0.out (by omega)).mono ?_
        rintro e w2 ⟨g0, rfl, k0, hb2⟩
        have hB2 : Below w.heap.size w w2 := by first | exact chain0 hB hb2 | exact chain1 hB hb2 | exact chain2 hB hb2 | exact chain3 hB hb2
        clear hB
        have hB := hB2
        clear hB2
        have y_X : RdB w2 a0 xs := by first | exact x_X.keep hb2 | exact (x_X.alloc _).keep hb2 | exact ((x_X.alloc _).alloc _).keep hb2 | exact (((x_X.alloc _).alloc _).alloc _).keep hb2
        clear x_X
        have x_X := y_X
        clear y_X
        have x_G : Rw w2 g0 (lent xs) := k0
        clear k0
        go_wp2_with fail
        refine (H1.out _ len0 _ _ (lent_rd x_G Hl0.out) Hl0.out (by omega)).mono ?_
        rintro e w3 ⟨a3, c3, rfl, k3, hb3⟩
        have hB2 : Below w.heap.size w w3 := by first | exact chain0 hB hb3 | exact chain1 hB hb3 | exact chain2 hB hb3 | exact chain3 hB hb3
        clear hB
        have hB := hB2
        clear hB2
        have y_X : RdB w3 a0 xs := by first | exact x_X.keep hb3 | exact (x_X.alloc _).keep hb3 | exact ((x_X.alloc _).alloc _).keep hb3 | exact (((x_X.alloc _).alloc _).alloc _).keep hb3
        have y_G : Rw w3 g0 (lent xs) := by first | exact x_G.keep hb3 | exact (x_G.alloc _).keep hb3 | exact ((x_G.alloc _).alloc _).keep hb3 | exact (((x_G.alloc _).alloc _).alloc _).keep hb3
        clear x_X x_G
        have x_X := y_X
        have x_G := y_G
        clear y_X y_G
        have x_P : RdP w3 a3 bss := k3
        clear k3
        go_wp2_with fail
        refine (H2.out _ len0 _ _ x_X Hl0.out (by omega)).mono ?_
        rintro e w4 ⟨a4, c4, rfl, k4, hb4⟩
        have hB2 : Below w.heap.size w w4 := by first | exact chain0 hB hb4 | exact chain1 hB hb4 | exact chain2 hB hb4 | exact chain3 hB hb4
        clear hB
        have hB := hB2
        clear hB2
        have y_X : RdB w4 a0 xs := by first | exact x_X.keep hb4 | exact (x_X.alloc _).keep hb4 | exact ((x_X.alloc _).alloc _).keep hb4 | exact (((x_X.alloc _).alloc _).alloc _).keep hb4
        have y_G : Rw w4 g0 (lent xs) := by first | exact x_G.keep hb4 | exact (x_G.alloc _).keep hb4 | exact ((x_G.alloc _).alloc _).keep hb4 | exact (((x_G.alloc _).alloc _).alloc _).keep hb4
        have y_P : RdP w4 a3 bss := by first | exact x_P.keep hb4 | exact (x_P.alloc _).keep hb4 | exact ((x_P.alloc _).alloc _).keep hb4 | exact (((x_P.alloc _).alloc _).alloc _).keep hb4
        clear x_X x_G x_P
        have x_X := y_X
        have x_G := y_G
        have x_P := y_P
        clear y_X y_G y_P
        go_wp2_with fail
        refine (samePieces_any a3 a4 bss l c3 l c4 _ x_P k4 Hl.out Hl.out hl' Hall.out).mono ?_
        rintro e w5 ⟨rfl, hb5⟩
        have hB2 : Below w.heap.size w w5 := by first | exact chain0 hB hb5 | exact chain1 hB hb5 | exact chain2 hB hb5 | exact chain3 hB hb5
        clear hB
        have hB := hB2
        clear hB2
        have y_X : RdB w5 a0 xs := by first | exact x_X.keep hb5 | exact (x_X.alloc _).keep hb5 | exact ((x_X.alloc _).alloc _).keep hb5 | exact (((x_X.alloc _).alloc _).alloc _).keep hb5
        have y_G : Rw w5 g0 (lent xs) := by first | exact x_G.keep hb5 | exact (x_G.alloc _).keep hb5 | exact ((x_G.alloc _).alloc _).keep hb5 | exact (((x_G.alloc _).alloc _).alloc _).keep hb5
        have y_P : RdP w5 a3 bss := by first | exact x_P.keep hb5 | exact (x_P.alloc _).keep hb5 | exact ((x_P.alloc _).alloc _).keep hb5 | exact (((x_P.alloc _).alloc _).alloc _).keep hb5
        clear x_X x_G x_P
        have x_X := y_X
        have x_G := y_G
        have x_P := y_P
        clear y_X y_G y_P
        clear k4
        go_wp2_with fail
        refine (kept_true a0 xs g0 len0 cap0 _ x_G x_X Hl0.out (by omega)).mono ?_
        rintro e w6 ⟨rfl, hb6⟩
        have hB2 : Below w.heap.size w w6 := by first | exact chain0 hB hb6 | exact chain1 hB hb6 | exact chain2 hB hb6 | exact chain3 hB hb6
        clear hB
        have hB := hB2
        clear hB2
        have y_X : RdB w6 a0 xs := by first | exact x_X.keep hb6 | exact (x_X.alloc _).keep hb6 | exact ((x_X.alloc _).alloc _).keep hb6 | exact (((x_X.alloc _).alloc _).alloc _).keep hb6
        have y_G : Rw w6 g0 (lent xs) := by first | exact x_G.keep hb6 | exact (x_G.alloc _).keep hb6 | exact ((x_G.alloc _).alloc _).keep hb6 | exact (((x_G.alloc _).alloc _).alloc _).keep hb6
        have y_P : RdP w6 a3 bss := by first | exact x_P.keep hb6 | exact (x_P.alloc _).keep hb6 | exact ((x_P.alloc _).alloc _).keep hb6 | exact (((x_P.alloc _).alloc _).alloc _).keep hb6
        clear x_X x_G x_P
        have x_X := y_X
        have x_G := y_G
        have x_P := y_P
        clear y_X y_G y_P
        go_wp2
        go_ret
        exact ⟨rfl, hB⟩
end Go.Proofs.Ytofbcgehemclbaa

