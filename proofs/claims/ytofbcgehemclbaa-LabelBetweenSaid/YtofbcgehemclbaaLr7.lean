/- The reference of layer 3: Between. -/
import Derived.Test.YtofbcgehemclbaaLr6
import Derived.Test.YtofbcgehemclbaaLb5
namespace Go.Proofs.Ytofbcgehemclbaa
open Go.RowKit Bm Lib
set_option maxRecDepth 100000 in
set_option maxHeartbeats 1000000 in
theorem rbetween_noparent (a b p : Option Addr) (ps : List UInt8) (n c m d k f : Nat) (w : World) (hr : RdB w p ps) (hn : n = ps.length) (hle : (n : Int) ≤ 9223372036854775807) (hs : ¬ ∃ pp, IsL ps pp) :
    Calls Try.prog 16 #[.slice p n c, .slice a m d, .slice b k f] w fun e w' => e = .returned (.tuple #[.slice none 0 0, .int .i64 2]) ∧ Below w.heap.size w w' := by
  have hB := Below.refl w.heap.size w
  have Hn := hide hn
  have Hs := hide hs
  clear hn hs
  go_enter Try.func16, Try.ntmps16
  go_wp2_with fail
  refine (rsteps_no p ps n c _ hr Hn.out hle Hs.out).mono ?_
  rintro e w1 ⟨rfl, hb1⟩
  have hB2 : Below w.heap.size w w1 := by first | exact chain0 hB hb1 | exact chain1 hB hb1 | exact chain2 hB hb1 | exact chain3 hB hb1
  clear hB
  have hB := hB2
  clear hB2
  go_wp2
  go_ret2
  exact ⟨rfl, hB⟩
set_option maxRecDepth 100000 in
set_option maxHeartbeats 2000000 in
theorem rbetween_arg (p a b : Option Addr) (ps as_ bs : List UInt8) (pp : List (List Bool)) (n c m d k f : Nat) (w : World) (hr : RdB w p ps) (hra : RdB w a as_) (hrb : RdB w b bs) (hn : n = ps.length) (hm : m = as_.length) (hk : k = bs.length)
    (hle : (n : Int) ≤ 9223372036854775807) (hle2 : (m : Int) ≤ 9223372036854775807) (hle3 : (k : Int) ≤ 9223372036854775807) (hp : IsL ps pp)
    (hs : (¬ ∃ s, ChildOf pp as_ s) ∨ (¬ ∃ s, ChildOf pp bs s) ∨ ∃ s t, IsL as_ (pp ++ [s]) ∧ IsL bs (pp ++ [t]) ∧ 0 ≤ lexB s t) :
    Calls Try.prog 16 #[.slice p n c, .slice a m d, .slice b k f] w fun e w' => e = .returned (.tuple #[.slice none 0 0, .int .i64 2]) ∧ Below w.heap.size w w' := by
  have hB := Below.refl w.heap.size w
  have hpl := wr_le hp.2.1
  have Hn := hide hn
  have Hm := hide hm
  have Hk := hide hk
  clear hn hm hk
  by_cases h1 : ∃ s, ChildOf pp as_ s
  · obtain ⟨s, h1⟩ := h1
    by_cases h2 : ∃ s, ChildOf pp bs s
    · obtain ⟨s', t, k1, k2, k3⟩ : ∃ s t, IsL as_ (pp ++ [s]) ∧ IsL bs (pp ++ [t]) ∧ 0 ≤ lexB s t := by
        rcases hs with h | h | h
        · exact absurd ⟨s, h1⟩ h
        · exact absurd h2 h
        · exact h
      have e := childOf_uniq h1 (.inr k1)
      subst e
      have hq : false = decide (lexB s t < 0) := by symm; rw [decide_eq_false_iff_not]; omega
      have Hq := hide hq
      have hm1 : (0 : Int) < m := by
        have h3 := (childOf_ne k1).1
        have := Hm.out
        have := List.length_pos_iff.2 h3
        omega
      have hk1 : (0 : Int) < k := by
        have h3 := (childOf_ne k2).1
        have := Hk.out
        have := List.length_pos_iff.2 h3
        omega
      have hsl := childOf_len h1
      have htl := (childOf_ne k2).2.2.2
      obtain ⟨X, hX⟩ : ∃ X, X = txS s := ⟨_, rfl⟩
      obtain ⟨Y, hY⟩ : ∃ X, X = txS t := ⟨_, rfl⟩
      have HX := hide hX
      have HY := hide hY
      have K1 := hide k1
      have K2 := hide k2
      clear hs h1 h2 k1 k2 hq hX hY
      go_enter Try.func16, Try.ntmps16
      go_wp2_with fail
      refine (rsteps_yes p ps pp n c _ hr Hn.out hle hp).mono ?_
      rintro e w1 ⟨a1, c1, rfl, ⟨h1, hc1⟩, hb1⟩
      have hB2 : Below w.heap.size w w1 := by first | exact chain0 hB hb1 | exact chain1 hB hb1 | exact chain2 hB hb1 | exact chain3 hB hb1
      clear hB
      have hB := hB2
      clear hB2
      have x_P : RdT w1 a1 pp := h1
      have x_A : RdB w1 a as_ := hra.keep hB
      have x_B : RdB w1 b bs := hrb.keep hB
      clear h1
      go_wp2_with fail
      refine (rchild_is a1 a pp as_ s X _ c1 m d _ x_P x_A rfl Hm.out hle2 HX.out (.inr K1.out)).mono ?_
      rintro e w2 ⟨rfl, hb2⟩
      have hB2 : Below w.heap.size w w2 := by first | exact chain0 hB hb2 | exact chain1 hB hb2 | exact chain2 hB hb2 | exact chain3 hB hb2
      clear hB
      have hB := hB2
      clear hB2
      have y_P : RdT w2 a1 pp := by first | exact x_P.keep hb2 | exact (x_P.alloc _).keep hb2 | exact ((x_P.alloc _).alloc _).keep hb2 | exact (((x_P.alloc _).alloc _).alloc _).keep hb2
      have y_A : RdB w2 a as_ := by first | exact x_A.keep hb2 | exact (x_A.alloc _).keep hb2 | exact ((x_A.alloc _).alloc _).keep hb2 | exact (((x_A.alloc _).alloc _).alloc _).keep hb2
      have y_B : RdB w2 b bs := by first | exact x_B.keep hb2 | exact (x_B.alloc _).keep hb2 | exact ((x_B.alloc _).alloc _).keep hb2 | exact (((x_B.alloc _).alloc _).alloc _).keep hb2
      clear x_P x_A x_B
      have x_P := y_P
      have x_A := y_A
      have x_B := y_B
      clear y_P y_A y_B
      go_wp2_with fail
      refine (rchild_is a1 b pp bs t Y _ c1 k f _ x_P x_B rfl Hk.out hle3 HY.out (.inr K2.out)).mono ?_
      rintro e w3 ⟨rfl, hb3⟩
      have hB2 : Below w.heap.size w w3 := by first | exact chain0 hB hb3 | exact chain1 hB hb3 | exact chain2 hB hb3 | exact chain3 hB hb3
      clear hB
      have hB := hB2
      clear hB2
      have y_P : RdT w3 a1 pp := by first | exact x_P.keep hb3 | exact (x_P.alloc _).keep hb3 | exact ((x_P.alloc _).alloc _).keep hb3 | exact (((x_P.alloc _).alloc _).alloc _).keep hb3
      have y_A : RdB w3 a as_ := by first | exact x_A.keep hb3 | exact (x_A.alloc _).keep hb3 | exact ((x_A.alloc _).alloc _).keep hb3 | exact (((x_A.alloc _).alloc _).alloc _).keep hb3
      have y_B : RdB w3 b bs := by first | exact x_B.keep hb3 | exact (x_B.alloc _).keep hb3 | exact ((x_B.alloc _).alloc _).keep hb3 | exact (((x_B.alloc _).alloc _).alloc _).keep hb3
      clear x_P x_A x_B
      have x_P := y_P
      have x_A := y_A
      have x_B := y_B
      clear y_P y_A y_B
      go_wp2_with fail
      refine (rlessL s t X Y false _ (by omega) (by omega) HX.out HY.out Hq.out).mono ?_
      rintro e w4 ⟨rfl, hb4⟩
      have hB2 : Below w.heap.size w w4 := by first | exact chain0 hB hb4 | exact chain1 hB hb4 | exact chain2 hB hb4 | exact chain3 hB hb4
      clear hB
      have hB := hB2
      clear hB2
      have y_P : RdT w4 a1 pp := by first | exact x_P.keep hb4 | exact (x_P.alloc _).keep hb4 | exact ((x_P.alloc _).alloc _).keep hb4 | exact (((x_P.alloc _).alloc _).alloc _).keep hb4
      have y_A : RdB w4 a as_ := by first | exact x_A.keep hb4 | exact (x_A.alloc _).keep hb4 | exact ((x_A.alloc _).alloc _).keep hb4 | exact (((x_A.alloc _).alloc _).alloc _).keep hb4
      have y_B : RdB w4 b bs := by first | exact x_B.keep hb4 | exact (x_B.alloc _).keep hb4 | exact ((x_B.alloc _).alloc _).keep hb4 | exact (((x_B.alloc _).alloc _).alloc _).keep hb4
      clear x_P x_A x_B
      have x_P := y_P
      have x_A := y_A
      have x_B := y_B
      clear y_P y_A y_B
      go_wp2
      go_ret2
      exact ⟨rfl, hB⟩
    · obtain ⟨X, hX⟩ : ∃ X, X = txS s := ⟨_, rfl⟩
      have HX := hide hX
      have H1 := hide h1
      have H2 := hide h2
      clear hs h1 h2 hX
      go_enter Try.func16, Try.ntmps16
      go_wp2_with fail
      refine (rsteps_yes p ps pp n c _ hr Hn.out hle hp).mono ?_
      rintro e w1 ⟨a1, c1, rfl, ⟨h1, hc1⟩, hb1⟩
      have hB2 : Below w.heap.size w w1 := by first | exact chain0 hB hb1 | exact chain1 hB hb1 | exact chain2 hB hb1 | exact chain3 hB hb1
      clear hB
      have hB := hB2
      clear hB2
      have x_P : RdT w1 a1 pp := h1
      have x_A : RdB w1 a as_ := hra.keep hB
      have x_B : RdB w1 b bs := hrb.keep hB
      clear h1
      go_wp2_with fail
      refine (rchild_is a1 a pp as_ s X _ c1 m d _ x_P x_A rfl Hm.out hle2 HX.out H1.out).mono ?_
      rintro e w2 ⟨rfl, hb2⟩
      have hB2 : Below w.heap.size w w2 := by first | exact chain0 hB hb2 | exact chain1 hB hb2 | exact chain2 hB hb2 | exact chain3 hB hb2
      clear hB
      have hB := hB2
      clear hB2
      have y_P : RdT w2 a1 pp := by first | exact x_P.keep hb2 | exact (x_P.alloc _).keep hb2 | exact ((x_P.alloc _).alloc _).keep hb2 | exact (((x_P.alloc _).alloc _).alloc _).keep hb2
      have y_A : RdB w2 a as_ := by first | exact x_A.keep hb2 | exact (x_A.alloc _).keep hb2 | exact ((x_A.alloc _).alloc _).keep hb2 | exact (((x_A.alloc _).alloc _).alloc _).keep hb2
      have y_B : RdB w2 b bs := by first | exact x_B.keep hb2 | exact (x_B.alloc _).keep hb2 | exact ((x_B.alloc _).alloc _).keep hb2 | exact (((x_B.alloc _).alloc _).alloc _).keep hb2
      clear x_P x_A x_B
      have x_P := y_P
      have x_A := y_A
      have x_B := y_B
      clear y_P y_A y_B
      go_wp2_with fail
      refine (rchild_bad a1 b pp bs _ c1 k f _ x_P x_B rfl hpl Hk.out hle3 H2.out).mono ?_
      rintro e w3 ⟨rfl, hb3⟩
      have hB2 : Below w.heap.size w w3 := by first | exact chain0 hB hb3 | exact chain1 hB hb3 | exact chain2 hB hb3 | exact chain3 hB hb3
      clear hB
      have hB := hB2
      clear hB2
      have y_P : RdT w3 a1 pp := by first | exact x_P.keep hb3 | exact (x_P.alloc _).keep hb3 | exact ((x_P.alloc _).alloc _).keep hb3 | exact (((x_P.alloc _).alloc _).alloc _).keep hb3
      have y_A : RdB w3 a as_ := by first | exact x_A.keep hb3 | exact (x_A.alloc _).keep hb3 | exact ((x_A.alloc _).alloc _).keep hb3 | exact (((x_A.alloc _).alloc _).alloc _).keep hb3
      have y_B : RdB w3 b bs := by first | exact x_B.keep hb3 | exact (x_B.alloc _).keep hb3 | exact ((x_B.alloc _).alloc _).keep hb3 | exact (((x_B.alloc _).alloc _).alloc _).keep hb3
      clear x_P x_A x_B
      have x_P := y_P
      have x_A := y_A
      have x_B := y_B
      clear y_P y_A y_B
      go_wp2
      go_ret2
      exact ⟨rfl, hB⟩
  · have H1 := hide h1
    clear hs h1
    by_cases h2 : ∃ s, ChildOf pp bs s
    · obtain ⟨t, h2⟩ := h2
      obtain ⟨X, hX⟩ : ∃ X, X = txS t := ⟨_, rfl⟩
      have HX := hide hX
      have H2 := hide h2
      clear h2 hX
      go_enter Try.func16, Try.ntmps16
      go_wp2_with fail
      refine (rsteps_yes p ps pp n c _ hr Hn.out hle hp).mono ?_
      rintro e w1 ⟨a1, c1, rfl, ⟨h1, hc1⟩, hb1⟩
      have hB2 : Below w.heap.size w w1 := by first | exact chain0 hB hb1 | exact chain1 hB hb1 | exact chain2 hB hb1 | exact chain3 hB hb1
      clear hB
      have hB := hB2
      clear hB2
      have x_P : RdT w1 a1 pp := h1
      have x_A : RdB w1 a as_ := hra.keep hB
      have x_B : RdB w1 b bs := hrb.keep hB
      clear h1
      go_wp2_with fail
      refine (rchild_bad a1 a pp as_ _ c1 m d _ x_P x_A rfl hpl Hm.out hle2 H1.out).mono ?_
      rintro e w2 ⟨rfl, hb2⟩
      have hB2 : Below w.heap.size w w2 := by first | exact chain0 hB hb2 | exact chain1 hB hb2 | exact chain2 hB hb2 | exact chain3 hB hb2
      clear hB
      have hB := hB2
      clear hB2
      have y_P : RdT w2 a1 pp := by first | exact x_P.keep hb2 | exact (x_P.alloc _).keep hb2 | exact ((x_P.alloc _).alloc _).keep hb2 | exact (((x_P.alloc _).alloc _).alloc _).keep hb2
      have y_A : RdB w2 a as_ := by first | exact x_A.keep hb2 | exact (x_A.alloc _).keep hb2 | exact ((x_A.alloc _).alloc _).keep hb2 | exact (((x_A.alloc _).alloc _).alloc _).keep hb2
      have y_B : RdB w2 b bs := by first | exact x_B.keep hb2 | exact (x_B.alloc _).keep hb2 | exact ((x_B.alloc _).alloc _).keep hb2 | exact (((x_B.alloc _).alloc _).alloc _).keep hb2
      clear x_P x_A x_B
      have x_P := y_P
      have x_A := y_A
      have x_B := y_B
      clear y_P y_A y_B
      go_wp2_with fail
      refine (rchild_is a1 b pp bs t X _ c1 k f _ x_P x_B rfl Hk.out hle3 HX.out H2.out).mono ?_
      rintro e w3 ⟨rfl, hb3⟩
      have hB2 : Below w.heap.size w w3 := by first | exact chain0 hB hb3 | exact chain1 hB hb3 | exact chain2 hB hb3 | exact chain3 hB hb3
      clear hB
      have hB := hB2
      clear hB2
      have y_P : RdT w3 a1 pp := by first | exact x_P.keep hb3 | exact (x_P.alloc _).keep hb3 | exact ((x_P.alloc _).alloc _).keep hb3 | exact (((x_P.alloc _).alloc _).alloc _).keep hb3
      have y_A : RdB w3 a as_ := by first | exact x_A.keep hb3 | exact (x_A.alloc _).keep hb3 | exact ((x_A.alloc _).alloc _).keep hb3 | exact (((x_A.alloc _).alloc _).alloc _).keep hb3
      have y_B : RdB w3 b bs := by first | exact x_B.keep hb3 | exact (x_B.alloc _).keep hb3 | exact ((x_B.alloc _).alloc _).keep hb3 | exact (((x_B.alloc _).alloc _).alloc _).keep hb3
      clear x_P x_A x_B
      have x_P := y_P
      have x_A := y_A
      have x_B := y_B
      clear y_P y_A y_B
      go_wp2
      go_ret2
      exact ⟨rfl, hB⟩
    · have H2 := hide h2
      clear h2
      go_enter Try.func16, Try.ntmps16
      go_wp2_with fail
      refine (rsteps_yes p ps pp n c _ hr Hn.out hle hp).mono ?_
      rintro e w1 ⟨a1, c1, rfl, ⟨h1, hc1⟩, hb1⟩
      have hB2 : Below w.heap.size w w1 := by first | exact chain0 hB hb1 | exact chain1 hB hb1 | exact chain2 hB hb1 | exact chain3 hB hb1
      clear hB
      have hB := hB2
      clear hB2
      have x_P : RdT w1 a1 pp := h1
      have x_A : RdB w1 a as_ := hra.keep hB
      have x_B : RdB w1 b bs := hrb.keep hB
      clear h1
      go_wp2_with fail
      refine (rchild_bad a1 a pp as_ _ c1 m d _ x_P x_A rfl hpl Hm.out hle2 H1.out).mono ?_
      rintro e w2 ⟨rfl, hb2⟩
      have hB2 : Below w.heap.size w w2 := by first | exact chain0 hB hb2 | exact chain1 hB hb2 | exact chain2 hB hb2 | exact chain3 hB hb2
      clear hB
      have hB := hB2
      clear hB2
      have y_P : RdT w2 a1 pp := by first | exact x_P.keep hb2 | exact (x_P.alloc _).keep hb2 | exact ((x_P.alloc _).alloc _).keep hb2 | exact (((x_P.alloc _).alloc _).alloc _).keep hb2
      have y_A : RdB w2 a as_ := by first | exact x_A.keep hb2 | exact (x_A.alloc _).keep hb2 | exact ((x_A.alloc _).alloc _).keep hb2 | exact (((x_A.alloc _).alloc _).alloc _).keep hb2
      have y_B : RdB w2 b bs := by first | exact x_B.keep hb2 | exact (x_B.alloc _).keep hb2 | exact ((x_B.alloc _).alloc _).keep hb2 | exact (((x_B.alloc _).alloc _).alloc _).keep hb2
      clear x_P x_A x_B
      have x_P := y_P
      have x_A := y_A
      have x_B := y_B
      clear y_P y_A y_B
      go_wp2_with fail
      refine (rchild_bad a1 b pp bs _ c1 k f _ x_P x_B rfl hpl Hk.out hle3 H2.out).mono ?_
      rintro e w3 ⟨rfl, hb3⟩
      have hB2 : Below w.heap.size w w3 := by first | exact chain0 hB hb3 | exact chain1 hB hb3 | exact chain2 hB hb3 | exact chain3 hB hb3
      clear hB
      have hB := hB2
      clear hB2
      have y_P : RdT w3 a1 pp := by first | exact x_P.keep hb3 | exact (x_P.alloc _).keep hb3 | exact ((x_P.alloc _).alloc _).keep hb3 | exact (((x_P.alloc _).alloc _).alloc _).keep hb3
      have y_A : RdB w3 a as_ := by first | exact x_A.keep hb3 | exact (x_A.alloc _).keep hb3 | exact ((x_A.alloc _).alloc _).keep hb3 | exact (((x_A.alloc _).alloc _).alloc _).keep hb3
      have y_B : RdB w3 b bs := by first | exact x_B.keep hb3 | exact (x_B.alloc _).keep hb3 | exact ((x_B.alloc _).alloc _).keep hb3 | exact (((x_B.alloc _).alloc _).alloc _).keep hb3
      clear x_P x_A x_B
      have x_P := y_P
      have x_A := y_A
      have x_B := y_B
      clear y_P y_A y_B
      go_wp2
      go_ret2
      exact ⟨rfl, hB⟩
/-- what the reference's Between returns -/
def RBetPost (w : World) (r : List Bool) (e : Ending) (w' : World) : Prop :=
  (r.length ≤ 1024 ∧ ∃ a cap, e = .returned (.tuple #[.slice a (nb r.length) cap, .int .i64 0]) ∧ RdB w' a (pkL r) ∧ Below w.heap.size w w') ∨
  (1024 < r.length ∧ e = .returned (.tuple #[.slice none 0 0, .int .i64 140]) ∧ Below w.heap.size w w')
set_option maxRecDepth 100000 in
set_option maxHeartbeats 2000000 in
theorem rbetween_any (p a b : Option Addr) (ps as_ bs : List UInt8) (pp : List (List Bool)) (s t r : List Bool) (n c m d k f : Nat) (w : World) (hr : RdB w p ps) (hra : RdB w a as_) (hrb : RdB w b bs) (hn : n = ps.length) (hm : m = as_.length) (hk : k = bs.length)
    (hle : (n : Int) ≤ 9223372036854775807) (hle2 : (m : Int) ≤ 9223372036854775807) (hle3 : (k : Int) ≤ 9223372036854775807) (hp : IsL ps pp)
    (hs : ChildOf pp as_ s) (ht : ChildOf pp bs t) (hlt : as_ ≠ [] → bs ≠ [] → lexB s t = -1) (hrr : r = wr (pp ++ [short s t])) :
    Calls Try.prog 16 #[.slice p n c, .slice a m d, .slice b k f] w (RBetPost w r) := by
  have hB := Below.refl w.heap.size w
  have hpl := wr_le hp.2.1
  have hsl := childOf_len hs
  have htl := childOf_len ht
  have hask : Asked s t := by
    rcases ht with ⟨h1, h2⟩ | ht
    · exact .inl h2
    · obtain ⟨h1, h2, h3, _⟩ := childOf_ne ht
      right
      rcases hs with ⟨h4, h5⟩ | hs
      · exact ⟨by rw [h5]; exact lex_nil_left h2, h3⟩
      · exact ⟨hlt (childOf_ne hs).1 h1, h3⟩
  obtain ⟨x, hx⟩ : ∃ x, x = short s t := ⟨_, rfl⟩
  have hxl : x.length ≤ 1025 := by rw [hx]; have := short_len hask; omega
  rw [← hx] at hrr
  have hrl : r.length ≤ 100000 := by
    rw [hrr, wr_snoc, List.length_append, enc_length]
    have := hp.2.1; omega
  obtain ⟨X, hX⟩ : ∃ X, X = txS s := ⟨_, rfl⟩
  obtain ⟨Y, hY⟩ : ∃ X, X = txS t := ⟨_, rfl⟩
  obtain ⟨S, hS⟩ : ∃ X, X = txS x := ⟨_, rfl⟩
  have hsh : ∀ W, Calls Try.prog 44 #[.string X, .string Y] W fun e w' => e = .returned (.string S) ∧ Below W.heap.size W w' := by
    intro W
    exact rshortest_any s t X Y S W hsl htl hX hY hask (by rw [hS, hx])
  have Hsh := hide hsh
  have Hn := hide hn
  have Hm := hide hm
  have Hk := hide hk
  have HX := hide hX
  have HY := hide hY
  have HS := hide hS
  have Hrr := hide hrr
  have Hs := hide hs
  have Ht := hide ht
  have hz1 := lenI m as_ hm
  have hz2 := lenI k bs hk
  have hqm : as_ ≠ [] → bs ≠ [] → true = decide (lexB s t < 0) := fun h1 h2 => by rw [hlt h1 h2]; rfl
  have Hqm := hide hqm
  obtain ⟨i0, hi, hi1, hi2, hi3⟩ := info_parts txtInfo
  have Hi : Hid (_ ∧ _ ∧ _ ∧ _) := ⟨hi, hi1, hi2, hi3⟩
  clear hn hm hk hx hrr hask hs ht hsh hlt hqm hX hY hS hi hi1 hi2 hi3
  rcases hz1 with ⟨e1, hz1⟩ | ⟨e1, hz1⟩
  · subst hz1
    clear hz2
    go_enter Try.func16, Try.ntmps16
    go_wp2_with fail
    refine (rsteps_yes p ps pp n c _ hr Hn.out hle hp).mono ?_
    rintro e w1 ⟨a1, c1, rfl, ⟨h1, hc1⟩, hb1⟩
    have hB2 : Below w.heap.size w w1 := by first | exact chain0 hB hb1 | exact chain1 hB hb1 | exact chain2 hB hb1 | exact chain3 hB hb1
    clear hB
    have hB := hB2
    clear hB2
    have x_P : RdT w1 a1 pp := h1
    have x_A : RdB w1 a as_ := hra.keep hB
    have x_B : RdB w1 b bs := hrb.keep hB
    clear h1
    go_wp2_with fail
    refine (rchild_is a1 a pp as_ s X _ c1 _ d _ x_P x_A rfl Hm.out hle2 HX.out Hs.out).mono ?_
    rintro e w2 ⟨rfl, hb2⟩
    have hB2 : Below w.heap.size w w2 := by first | exact chain0 hB hb2 | exact chain1 hB hb2 | exact chain2 hB hb2 | exact chain3 hB hb2
    clear hB
    have hB := hB2
    clear hB2
    have y_P : RdT w2 a1 pp := by first | exact x_P.keep hb2 | exact (x_P.alloc _).keep hb2 | exact ((x_P.alloc _).alloc _).keep hb2 | exact (((x_P.alloc _).alloc _).alloc _).keep hb2
    have y_A : RdB w2 a as_ := by first | exact x_A.keep hb2 | exact (x_A.alloc _).keep hb2 | exact ((x_A.alloc _).alloc _).keep hb2 | exact (((x_A.alloc _).alloc _).alloc _).keep hb2
    have y_B : RdB w2 b bs := by first | exact x_B.keep hb2 | exact (x_B.alloc _).keep hb2 | exact ((x_B.alloc _).alloc _).keep hb2 | exact (((x_B.alloc _).alloc _).alloc _).keep hb2
    clear x_P x_A x_B
    have x_P := y_P
    have x_A := y_A
    have x_B := y_B
    clear y_P y_A y_B
    go_wp2_with fail
    refine (rchild_is a1 b pp bs t Y _ c1 _ f _ x_P x_B rfl Hk.out hle3 HY.out Ht.out).mono ?_
    rintro e w3 ⟨rfl, hb3⟩
    have hB2 : Below w.heap.size w w3 := by first | exact chain0 hB hb3 | exact chain1 hB hb3 | exact chain2 hB hb3 | exact chain3 hB hb3
    clear hB
    have hB := hB2
    clear hB2
    have y_P : RdT w3 a1 pp := by first | exact x_P.keep hb3 | exact (x_P.alloc _).keep hb3 | exact ((x_P.alloc _).alloc _).keep hb3 | exact (((x_P.alloc _).alloc _).alloc _).keep hb3
    have y_A : RdB w3 a as_ := by first | exact x_A.keep hb3 | exact (x_A.alloc _).keep hb3 | exact ((x_A.alloc _).alloc _).keep hb3 | exact (((x_A.alloc _).alloc _).alloc _).keep hb3
    have y_B : RdB w3 b bs := by first | exact x_B.keep hb3 | exact (x_B.alloc _).keep hb3 | exact ((x_B.alloc _).alloc _).keep hb3 | exact (((x_B.alloc _).alloc _).alloc _).keep hb3
    clear x_P x_A x_B
    have x_P := y_P
    have x_A := y_A
    have x_B := y_B
    clear y_P y_A y_B
    have own0 : (w3.alloc (.cells #[] 9 (0, 0))).ownsRow w.heap.size 9 1 (.slice (some ⟨w3.heap.size, 0, none⟩) 0 0) 0 [] := ⟨rfl, .inr ⟨_, 0, #[], rfl, hB.size, heap_alloc_new _ _, Nat.le_refl _, by decide, rfl, rfl⟩⟩
    have hBa : Below w.heap.size w (w3.alloc (.cells #[] 9 (0, 0))) := hB.alloc hB.size _
    have hrd0 := Rd.alloc x_P (.cells #[] 9 (0, 0))
    obtain ⟨Wa, hWa⟩ : ∃ W, W = w3.alloc (.cells #[] 9 (0, 0)) := ⟨_, rfl⟩
    have hsz0 := hB.size
    have hst : ∀ p W, Sem.run Try.prog (storeCells p (#[] : Array Value).toList) W = .ok () W := fun _ _ => rfl
    have hpu : ∀ W, Sem.run Try.prog (pure (#[] : Array Value)) W = .ok #[] W := fun _ => rfl
    rw [← hWa] at own0 hBa hrd0
    have Own0 := hide own0
    have Hrd0 := hide hrd0
    have HWa := hide hWa
    clear own0 hrd0 hWa x_P x_A x_B hB
    go_wp2_with (at_builtin; rw [← HWa.out]; refine wpList_appR rfl _ _ 54 rfl i0 _ 16 c1 Try.underlying54 Hi.out.1 Hi.out.2.1 Hi.out.2.2.1 Hi.out.2.2.2 rfl (by decide) rfl rfl ?e1 Own0.out Hrd0.out (m := pp.length) ?e5 ?e2 ?e3 ?e4 ?_)
    case e1 => intro u hu; simp [tcells] at hu; obtain ⟨_, _, rfl⟩ := hu; rfl
    case e5 => simp [tcells]
    case e2 => omega
    case e3 => omega
    case e4 => exact hBa.size
    intro v4 W4 own4 hg4 _
    have hB4 : Below w.heap.size w W4 := hBa.grown hg4 hBa.size (fun k hk => Nat.le_trans hsz0 (Nat.le_of_eq (by simpa [Value.ownBlock] using hk)))
    clear hBa hg4 Own0 Hrd0 HWa
    go_wp2_with fail
    refine (Hsh.out _).mono ?_
    rintro e W5 ⟨rfl, hb5⟩
    have own5 := ow_keep own4 hb5
    have hB5 := chain0 hB4 hb5
    have hk6 := (Below.refl W5.heap.size W5).alloc (Nat.le_refl _) (.cells #[.string S] 9)
    have own6 := ow_keep own5 hk6
    have hrd6 := Rd.new W5 9 [.string S]
    have be6 := chain0 hB5 hk6
    have hlt6 := ow_lt own6
    have Own6 := hide own6
    have Hrd6 := hide hrd6
    have Hlt6 := hide hlt6
    clear own4 own5 own6 hrd6 hlt6 hB4 hB5 hb5 hk6
    go_wp2_with (at_builtin; refine wpList_appR rfl _ _ 54 rfl i0 _ 16 1 Try.underlying54 Hi.out.1 Hi.out.2.1 Hi.out.2.2.1 Hi.out.2.2.2 rfl (by decide) rfl rfl ?f1 Own6.out Hrd6.out (m := 1) rfl ?f2 ?f3 ?f4 ?_)
    case f1 => intro u hu; simp at hu; subst hu; rfl
    case f2 => omega
    case f3 => omega
    case f4 => exact be6.size
    intro v7 W7 own7 hg7 _
    have hB7 : Below w.heap.size w W7 := be6.grown hg7 be6.size (fun k hk => (Hlt6.out k hk).1)
    obtain ⟨g7, cap7, rfl, _, _, _⟩ := ow_form own7 (by omega)
    have hrd7 : RdT W7 (some ⟨g7, 0, none⟩) (pp ++ [x]) := by
      have := ow_rd own7
      rw [HS.out] at this
      simpa [tcells, RdT] using this
    have Hrd7 := hide hrd7
    clear own7 hrd7 hg7 be6 Own6 Hrd6 Hlt6
    go_wp2_with fail
    refine (label_any (some ⟨g7, 0, none⟩) (pp ++ [x]) r (pp.length + 1) cap7 W7 Hrd7.out (by simp) hrl Hrr.out).mono ?_
    rintro e w8 (⟨hr8, a8, c8, rfl, hp8, hb8⟩ | ⟨hr8, rfl, hb8⟩)
    · have hB8 := chain0 hB7 hb8
      clear hB7 hb8
      go_wp2
      go_ret2
      exact .inl ⟨hr8, a8, c8, rfl, hp8, hB8⟩
    · have hB8 := chain0 hB7 hb8
      clear hB7 hb8
      go_wp2
      go_ret2
      exact .inr ⟨hr8, rfl, hB8⟩
  · rcases hz2 with ⟨e2, hz2⟩ | ⟨e2, hz2⟩
    · subst hz2
      go_enter Try.func16, Try.ntmps16
      go_wp2_with fail
      refine (rsteps_yes p ps pp n c _ hr Hn.out hle hp).mono ?_
      rintro e w1 ⟨a1, c1, rfl, ⟨h1, hc1⟩, hb1⟩
      have hB2 : Below w.heap.size w w1 := by first | exact chain0 hB hb1 | exact chain1 hB hb1 | exact chain2 hB hb1 | exact chain3 hB hb1
      clear hB
      have hB := hB2
      clear hB2
      have x_P : RdT w1 a1 pp := h1
      have x_A : RdB w1 a as_ := hra.keep hB
      have x_B : RdB w1 b bs := hrb.keep hB
      clear h1
      go_wp2_with fail
      refine (rchild_is a1 a pp as_ s X _ c1 _ d _ x_P x_A rfl Hm.out hle2 HX.out Hs.out).mono ?_
      rintro e w2 ⟨rfl, hb2⟩
      have hB2 : Below w.heap.size w w2 := by first | exact chain0 hB hb2 | exact chain1 hB hb2 | exact chain2 hB hb2 | exact chain3 hB hb2
      clear hB
      have hB := hB2
      clear hB2
      have y_P : RdT w2 a1 pp := by first | exact x_P.keep hb2 | exact (x_P.alloc _).keep hb2 | exact ((x_P.alloc _).alloc _).keep hb2 | exact (((x_P.alloc _).alloc _).alloc _).keep hb2
      have y_A : RdB w2 a as_ := by first | exact x_A.keep hb2 | exact (x_A.alloc _).keep hb2 | exact ((x_A.alloc _).alloc _).keep hb2 | exact (((x_A.alloc _).alloc _).alloc _).keep hb2
      have y_B : RdB w2 b bs := by first | exact x_B.keep hb2 | exact (x_B.alloc _).keep hb2 | exact ((x_B.alloc _).alloc _).keep hb2 | exact (((x_B.alloc _).alloc _).alloc _).keep hb2
      clear x_P x_A x_B
      have x_P := y_P
      have x_A := y_A
      have x_B := y_B
      clear y_P y_A y_B
      go_wp2_with fail
      refine (rchild_is a1 b pp bs t Y _ c1 _ f _ x_P x_B rfl Hk.out hle3 HY.out Ht.out).mono ?_
      rintro e w3 ⟨rfl, hb3⟩
      have hB2 : Below w.heap.size w w3 := by first | exact chain0 hB hb3 | exact chain1 hB hb3 | exact chain2 hB hb3 | exact chain3 hB hb3
      clear hB
      have hB := hB2
      clear hB2
      have y_P : RdT w3 a1 pp := by first | exact x_P.keep hb3 | exact (x_P.alloc _).keep hb3 | exact ((x_P.alloc _).alloc _).keep hb3 | exact (((x_P.alloc _).alloc _).alloc _).keep hb3
      have y_A : RdB w3 a as_ := by first | exact x_A.keep hb3 | exact (x_A.alloc _).keep hb3 | exact ((x_A.alloc _).alloc _).keep hb3 | exact (((x_A.alloc _).alloc _).alloc _).keep hb3
      have y_B : RdB w3 b bs := by first | exact x_B.keep hb3 | exact (x_B.alloc _).keep hb3 | exact ((x_B.alloc _).alloc _).keep hb3 | exact (((x_B.alloc _).alloc _).alloc _).keep hb3
      clear x_P x_A x_B
      have x_P := y_P
      have x_A := y_A
      have x_B := y_B
      clear y_P y_A y_B
      have own0 : (w3.alloc (.cells #[] 9 (0, 0))).ownsRow w.heap.size 9 1 (.slice (some ⟨w3.heap.size, 0, none⟩) 0 0) 0 [] := ⟨rfl, .inr ⟨_, 0, #[], rfl, hB.size, heap_alloc_new _ _, Nat.le_refl _, by decide, rfl, rfl⟩⟩
      have hBa : Below w.heap.size w (w3.alloc (.cells #[] 9 (0, 0))) := hB.alloc hB.size _
      have hrd0 := Rd.alloc x_P (.cells #[] 9 (0, 0))
      obtain ⟨Wa, hWa⟩ : ∃ W, W = w3.alloc (.cells #[] 9 (0, 0)) := ⟨_, rfl⟩
      have hsz0 := hB.size
      have hst : ∀ p W, Sem.run Try.prog (storeCells p (#[] : Array Value).toList) W = .ok () W := fun _ _ => rfl
      have hpu : ∀ W, Sem.run Try.prog (pure (#[] : Array Value)) W = .ok #[] W := fun _ => rfl
      rw [← hWa] at own0 hBa hrd0
      have Own0 := hide own0
      have Hrd0 := hide hrd0
      have HWa := hide hWa
      clear own0 hrd0 hWa x_P x_A x_B hB
      go_wp2_with (at_builtin; rw [← HWa.out]; refine wpList_appR rfl _ _ 54 rfl i0 _ 16 c1 Try.underlying54 Hi.out.1 Hi.out.2.1 Hi.out.2.2.1 Hi.out.2.2.2 rfl (by decide) rfl rfl ?e1 Own0.out Hrd0.out (m := pp.length) ?e5 ?e2 ?e3 ?e4 ?_)
      case e1 => intro u hu; simp [tcells] at hu; obtain ⟨_, _, rfl⟩ := hu; rfl
      case e5 => simp [tcells]
      case e2 => omega
      case e3 => omega
      case e4 => exact hBa.size
      intro v4 W4 own4 hg4 _
      have hB4 : Below w.heap.size w W4 := hBa.grown hg4 hBa.size (fun k hk => Nat.le_trans hsz0 (Nat.le_of_eq (by simpa [Value.ownBlock] using hk)))
      clear hBa hg4 Own0 Hrd0 HWa
      go_wp2_with fail
      refine (Hsh.out _).mono ?_
      rintro e W5 ⟨rfl, hb5⟩
      have own5 := ow_keep own4 hb5
      have hB5 := chain0 hB4 hb5
      have hk6 := (Below.refl W5.heap.size W5).alloc (Nat.le_refl _) (.cells #[.string S] 9)
      have own6 := ow_keep own5 hk6
      have hrd6 := Rd.new W5 9 [.string S]
      have be6 := chain0 hB5 hk6
      have hlt6 := ow_lt own6
      have Own6 := hide own6
      have Hrd6 := hide hrd6
      have Hlt6 := hide hlt6
      clear own4 own5 own6 hrd6 hlt6 hB4 hB5 hb5 hk6
      go_wp2_with (at_builtin; refine wpList_appR rfl _ _ 54 rfl i0 _ 16 1 Try.underlying54 Hi.out.1 Hi.out.2.1 Hi.out.2.2.1 Hi.out.2.2.2 rfl (by decide) rfl rfl ?f1 Own6.out Hrd6.out (m := 1) rfl ?f2 ?f3 ?f4 ?_)
      case f1 => intro u hu; simp at hu; subst hu; rfl
      case f2 => omega
      case f3 => omega
      case f4 => exact be6.size
      intro v7 W7 own7 hg7 _
      have hB7 : Below w.heap.size w W7 := be6.grown hg7 be6.size (fun k hk => (Hlt6.out k hk).1)
      obtain ⟨g7, cap7, rfl, _, _, _⟩ := ow_form own7 (by omega)
      have hrd7 : RdT W7 (some ⟨g7, 0, none⟩) (pp ++ [x]) := by
        have := ow_rd own7
        rw [HS.out] at this
        simpa [tcells, RdT] using this
      have Hrd7 := hide hrd7
      clear own7 hrd7 hg7 be6 Own6 Hrd6 Hlt6
      go_wp2_with fail
      refine (label_any (some ⟨g7, 0, none⟩) (pp ++ [x]) r (pp.length + 1) cap7 W7 Hrd7.out (by simp) hrl Hrr.out).mono ?_
      rintro e w8 (⟨hr8, a8, c8, rfl, hp8, hb8⟩ | ⟨hr8, rfl, hb8⟩)
      · have hB8 := chain0 hB7 hb8
        clear hB7 hb8
        go_wp2
        go_ret2
        exact .inl ⟨hr8, a8, c8, rfl, hp8, hB8⟩
      · have hB8 := chain0 hB7 hb8
        clear hB7 hb8
        go_wp2
        go_ret2
        exact .inr ⟨hr8, rfl, hB8⟩
    · have hq1 := Hqm.out e1 e2
      have Hq1 := hide hq1
      clear hq1
      go_enter Try.func16, Try.ntmps16
      go_wp2_with fail
      refine (rsteps_yes p ps pp n c _ hr Hn.out hle hp).mono ?_
      rintro e w1 ⟨a1, c1, rfl, ⟨h1, hc1⟩, hb1⟩
      have hB2 : Below w.heap.size w w1 := by first | exact chain0 hB hb1 | exact chain1 hB hb1 | exact chain2 hB hb1 | exact chain3 hB hb1
      clear hB
      have hB := hB2
      clear hB2
      have x_P : RdT w1 a1 pp := h1
      have x_A : RdB w1 a as_ := hra.keep hB
      have x_B : RdB w1 b bs := hrb.keep hB
      clear h1
      go_wp2_with fail
      refine (rchild_is a1 a pp as_ s X _ c1 _ d _ x_P x_A rfl Hm.out hle2 HX.out Hs.out).mono ?_
      rintro e w2 ⟨rfl, hb2⟩
      have hB2 : Below w.heap.size w w2 := by first | exact chain0 hB hb2 | exact chain1 hB hb2 | exact chain2 hB hb2 | exact chain3 hB hb2
      clear hB
      have hB := hB2
      clear hB2
      have y_P : RdT w2 a1 pp := by first | exact x_P.keep hb2 | exact (x_P.alloc _).keep hb2 | exact ((x_P.alloc _).alloc _).keep hb2 | exact (((x_P.alloc _).alloc _).alloc _).keep hb2
      have y_A : RdB w2 a as_ := by first | exact x_A.keep hb2 | exact (x_A.alloc _).keep hb2 | exact ((x_A.alloc _).alloc _).keep hb2 | exact (((x_A.alloc _).alloc _).alloc _).keep hb2
      have y_B : RdB w2 b bs := by first | exact x_B.keep hb2 | exact (x_B.alloc _).keep hb2 | exact ((x_B.alloc _).alloc _).keep hb2 | exact (((x_B.alloc _).alloc _).alloc _).keep hb2
      clear x_P x_A x_B
      have x_P := y_P
      have x_A := y_A
      have x_B := y_B
      clear y_P y_A y_B
      go_wp2_with fail
      refine (rchild_is a1 b pp bs t Y _ c1 _ f _ x_P x_B rfl Hk.out hle3 HY.out Ht.out).mono ?_
      rintro e w3 ⟨rfl, hb3⟩
      have hB2 : Below w.heap.size w w3 := by first | exact chain0 hB hb3 | exact chain1 hB hb3 | exact chain2 hB hb3 | exact chain3 hB hb3
      clear hB
      have hB := hB2
      clear hB2
      have y_P : RdT w3 a1 pp := by first | exact x_P.keep hb3 | exact (x_P.alloc _).keep hb3 | exact ((x_P.alloc _).alloc _).keep hb3 | exact (((x_P.alloc _).alloc _).alloc _).keep hb3
      have y_A : RdB w3 a as_ := by first | exact x_A.keep hb3 | exact (x_A.alloc _).keep hb3 | exact ((x_A.alloc _).alloc _).keep hb3 | exact (((x_A.alloc _).alloc _).alloc _).keep hb3
      have y_B : RdB w3 b bs := by first | exact x_B.keep hb3 | exact (x_B.alloc _).keep hb3 | exact ((x_B.alloc _).alloc _).keep hb3 | exact (((x_B.alloc _).alloc _).alloc _).keep hb3
      clear x_P x_A x_B
      have x_P := y_P
      have x_A := y_A
      have x_B := y_B
      clear y_P y_A y_B
      go_wp2_with fail
      refine (rlessL s t X Y true _ (by omega) (by omega) HX.out HY.out Hq1.out).mono ?_
      rintro e w4 ⟨rfl, hb4⟩
      have hB2 : Below w.heap.size w w4 := by first | exact chain0 hB hb4 | exact chain1 hB hb4 | exact chain2 hB hb4 | exact chain3 hB hb4
      clear hB
      have hB := hB2
      clear hB2
      have y_P : RdT w4 a1 pp := by first | exact x_P.keep hb4 | exact (x_P.alloc _).keep hb4 | exact ((x_P.alloc _).alloc _).keep hb4 | exact (((x_P.alloc _).alloc _).alloc _).keep hb4
      have y_A : RdB w4 a as_ := by first | exact x_A.keep hb4 | exact (x_A.alloc _).keep hb4 | exact ((x_A.alloc _).alloc _).keep hb4 | exact (((x_A.alloc _).alloc _).alloc _).keep hb4
      have y_B : RdB w4 b bs := by first | exact x_B.keep hb4 | exact (x_B.alloc _).keep hb4 | exact ((x_B.alloc _).alloc _).keep hb4 | exact (((x_B.alloc _).alloc _).alloc _).keep hb4
      clear x_P x_A x_B
      have x_P := y_P
      have x_A := y_A
      have x_B := y_B
      clear y_P y_A y_B
      have own0 : (w4.alloc (.cells #[] 9 (0, 0))).ownsRow w.heap.size 9 1 (.slice (some ⟨w4.heap.size, 0, none⟩) 0 0) 0 [] := ⟨rfl, .inr ⟨_, 0, #[], rfl, hB.size, heap_alloc_new _ _, Nat.le_refl _, by decide, rfl, rfl⟩⟩
      have hBa : Below w.heap.size w (w4.alloc (.cells #[] 9 (0, 0))) := hB.alloc hB.size _
      have hrd0 := Rd.alloc x_P (.cells #[] 9 (0, 0))
      obtain ⟨Wa, hWa⟩ : ∃ W, W = w4.alloc (.cells #[] 9 (0, 0)) := ⟨_, rfl⟩
      have hsz0 := hB.size
      have hst : ∀ p W, Sem.run Try.prog (storeCells p (#[] : Array Value).toList) W = .ok () W := fun _ _ => rfl
      have hpu : ∀ W, Sem.run Try.prog (pure (#[] : Array Value)) W = .ok #[] W := fun _ => rfl
      rw [← hWa] at own0 hBa hrd0
      have Own0 := hide own0
      have Hrd0 := hide hrd0
      have HWa := hide hWa
      clear own0 hrd0 hWa x_P x_A x_B hB
      go_wp2_with (at_builtin; rw [← HWa.out]; refine wpList_appR rfl _ _ 54 rfl i0 _ 16 c1 Try.underlying54 Hi.out.1 Hi.out.2.1 Hi.out.2.2.1 Hi.out.2.2.2 rfl (by decide) rfl rfl ?e1 Own0.out Hrd0.out (m := pp.length) ?e5 ?e2 ?e3 ?e4 ?_)
      case e1 => intro u hu; simp [tcells] at hu; obtain ⟨_, _, rfl⟩ := hu; rfl
      case e5 => simp [tcells]
      case e2 => omega
      case e3 => omega
      case e4 => exact hBa.size
      intro v4 W4 own4 hg4 _
      have hB4 : Below w.heap.size w W4 := hBa.grown hg4 hBa.size (fun k hk => Nat.le_trans hsz0 (Nat.le_of_eq (by simpa [Value.ownBlock] using hk)))
      clear hBa hg4 Own0 Hrd0 HWa
      go_wp2_with fail
      refine (Hsh.out _).mono ?_
      rintro e W5 ⟨rfl, hb5⟩
      have own5 := ow_keep own4 hb5
      have hB5 := chain0 hB4 hb5
      have hk6 := (Below.refl W5.heap.size W5).alloc (Nat.le_refl _) (.cells #[.string S] 9)
      have own6 := ow_keep own5 hk6
      have hrd6 := Rd.new W5 9 [.string S]
      have be6 := chain0 hB5 hk6
      have hlt6 := ow_lt own6
      have Own6 := hide own6
      have Hrd6 := hide hrd6
      have Hlt6 := hide hlt6
      clear own4 own5 own6 hrd6 hlt6 hB4 hB5 hb5 hk6
      go_wp2_with (at_builtin; refine wpList_appR rfl _ _ 54 rfl i0 _ 16 1 Try.underlying54 Hi.out.1 Hi.out.2.1 Hi.out.2.2.1 Hi.out.2.2.2 rfl (by decide) rfl rfl ?f1 Own6.out Hrd6.out (m := 1) rfl ?f2 ?f3 ?f4 ?_)
      case f1 => intro u hu; simp at hu; subst hu; rfl
      case f2 => omega
      case f3 => omega
      case f4 => exact be6.size
      intro v7 W7 own7 hg7 _
      have hB7 : Below w.heap.size w W7 := be6.grown hg7 be6.size (fun k hk => (Hlt6.out k hk).1)
      obtain ⟨g7, cap7, rfl, _, _, _⟩ := ow_form own7 (by omega)
      have hrd7 : RdT W7 (some ⟨g7, 0, none⟩) (pp ++ [x]) := by
        have := ow_rd own7
        rw [HS.out] at this
        simpa [tcells, RdT] using this
      have Hrd7 := hide hrd7
      clear own7 hrd7 hg7 be6 Own6 Hrd6 Hlt6
      go_wp2_with fail
      refine (label_any (some ⟨g7, 0, none⟩) (pp ++ [x]) r (pp.length + 1) cap7 W7 Hrd7.out (by simp) hrl Hrr.out).mono ?_
      rintro e w8 (⟨hr8, a8, c8, rfl, hp8, hb8⟩ | ⟨hr8, rfl, hb8⟩)
      · have hB8 := chain0 hB7 hb8
        clear hB7 hb8
        go_wp2
        go_ret2
        exact .inl ⟨hr8, a8, c8, rfl, hp8, hB8⟩
      · have hB8 := chain0 hB7 hb8
        clear hB7 hb8
        go_wp2
        go_ret2
        exact .inr ⟨hr8, rfl, hB8⟩
end Go.Proofs.Ytofbcgehemclbaa

