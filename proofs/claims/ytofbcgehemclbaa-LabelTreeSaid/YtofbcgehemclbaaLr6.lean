/- The reference of layer 3: child, Between. -/
import Derived.Test.YtofbcgehemclbaaLr5
namespace Go.Proofs.Ytofbcgehemclbaa
open Go.RowKit Bm Lib
theorem rchild_none (a b : Option Addr) (n c d : Nat) (w : World) :
    Calls Try.prog 42 #[.slice a n c, .slice b 0 d] w fun e w' => e = .returned (.tuple #[.string ⟨#[]⟩, .bool true]) ∧ Below w.heap.size w w' := by
  go_enter Try.func42, Try.ntmps42
  go_wp2
  go_ret2
  exact ⟨rfl, Below.refl _ _⟩
set_option maxRecDepth 100000 in
set_option maxHeartbeats 1000000 in
theorem rchild_no (a b : Option Addr) (pp : List (List Bool)) (bs : List UInt8) (n c m d : Nat) (w : World) (hp : RdT w a pp) (hr : RdB w b bs) (hn : n = pp.length) (hnl : n ≤ 1024) (hm : m = bs.length) (hm0 : 0 < m) (hle : (m : Int) ≤ 9223372036854775807)
    (hno : ¬ ∃ s, IsL bs (pp ++ [s])) :
    Calls Try.prog 42 #[.slice a n c, .slice b m d] w fun e w' => e = .returned (.tuple #[.string ⟨#[]⟩, .bool false]) ∧ Below w.heap.size w w' := by
  have hB := Below.refl w.heap.size w
  have Hn := hide hn
  have Hm := hide hm
  have Hno := hide hno
  have hz : ((m : Int) == 0) = false := by simp; omega
  clear hn hm hno
  have Hz := hide hz
  clear hz
  by_cases hs : ∃ ss, IsL bs ss
  · obtain ⟨ss, hs⟩ := hs
    have hsl := wr_le hs.2.1
    by_cases hlen : ss.length = n + 1
    · have hlb : ((ss.length : Int) != (n : Int) + 1) = false := by simp [hlen]
      have hq : false = begS ss pp := by
        symm
        unfold begS
        rw [decide_eq_false_iff_not]
        intro e
        apply Hno.out
        have h1 : ss = ss.take pp.length ++ [ss[pp.length]'(by have := Hn.out; omega)] := by
          rw [← List.take_succ_eq_append_getElem, List.take_of_length_le]
          have := Hn.out; omega
        exact ⟨_, by rw [← e, ← h1] at *; exact hs⟩
      have Hq := hide hq
      have Hlen := hide hlen
      clear hq hlen
      have hcs := rsteps_yes b bs ss m d
      rw [Hlen.out] at hcs
      have Hcs := hide hcs
      clear hcs hlb
      have hz := Hz.out
      go_enter Try.func42, Try.ntmps42
      have x_P : RdT w a pp := hp
      go_wp2_with fail
      refine (Hcs.out _ hr Hm.out hle hs).mono ?_
      rintro e w1 ⟨a1, c1, rfl, ⟨h1, hc1⟩, hb1⟩
      have hB2 : Below w.heap.size w w1 := by first | exact chain0 hB hb1 | exact chain1 hB hb1 | exact chain2 hB hb1 | exact chain3 hB hb1
      clear hB
      have hB := hB2
      clear hB2
      have y_P : RdT w1 a pp := by first | exact x_P.keep hb1 | exact (x_P.alloc _).keep hb1 | exact ((x_P.alloc _).alloc _).keep hb1 | exact (((x_P.alloc _).alloc _).alloc _).keep hb1
      clear x_P
      have x_P := y_P
      clear y_P
      go_wp2_with fail
      refine (rbegs_any a1 a ss pp (n + 1) c1 n c false _ h1 x_P Hlen.out.symm Hn.out (by omega) (by omega) Hq.out).mono ?_
      rintro e w2 ⟨rfl, hb2⟩
      have hB2 : Below w.heap.size w w2 := by first | exact chain0 hB hb2 | exact chain1 hB hb2 | exact chain2 hB hb2 | exact chain3 hB hb2
      clear hB
      have hB := hB2
      clear hB2
      have y_P : RdT w2 a pp := by first | exact x_P.keep hb2 | exact (x_P.alloc _).keep hb2 | exact ((x_P.alloc _).alloc _).keep hb2 | exact (((x_P.alloc _).alloc _).alloc _).keep hb2
      clear x_P
      have x_P := y_P
      clear y_P
      go_wp2
      go_ret2
      exact ⟨rfl, hB⟩
    · have hlb : ((ss.length : Int) != (n : Int) + 1) = true := by simp; omega
      have hz := Hz.out
      go_enter Try.func42, Try.ntmps42
      go_wp2_with fail
      refine (rsteps_yes b bs ss m d _ hr Hm.out hle hs).mono ?_
      rintro e w1 ⟨a1, c1, rfl, ⟨h1, hc1⟩, hb1⟩
      have hB2 : Below w.heap.size w w1 := by first | exact chain0 hB hb1 | exact chain1 hB hb1 | exact chain2 hB hb1 | exact chain3 hB hb1
      clear hB
      have hB := hB2
      clear hB2
      go_wp2
      go_ret2
      exact ⟨rfl, hB⟩
  · have Hs := hide hs
    clear hs
    have hz := Hz.out
    go_enter Try.func42, Try.ntmps42
    go_wp2_with fail
    refine (rsteps_no b bs m d _ hr Hm.out hle Hs.out).mono ?_
    rintro e w1 ⟨rfl, hb1⟩
    have hB2 : Below w.heap.size w w1 := by first | exact chain0 hB hb1 | exact chain1 hB hb1 | exact chain2 hB hb1 | exact chain3 hB hb1
    clear hB
    have hB := hB2
    clear hB2
    go_wp2
    go_ret2
    exact ⟨rfl, hB⟩
set_option maxRecDepth 100000 in
set_option maxHeartbeats 1000000 in
theorem rchild_yes (a b : Option Addr) (pp : List (List Bool)) (bs : List UInt8) (s : List Bool) (X : ByteArray) (n c m d : Nat) (w : World) (hp : RdT w a pp) (hr : RdB w b bs) (hn : n = pp.length) (hm : m = bs.length) (hle : (m : Int) ≤ 9223372036854775807)
    (hX : X = txS s) (hs : IsL bs (pp ++ [s])) :
    Calls Try.prog 42 #[.slice a n c, .slice b m d] w fun e w' => e = .returned (.tuple #[.string X, .bool true]) ∧ Below w.heap.size w w' := by
  have hB := Below.refl w.heap.size w
  have hpl : (pp ++ [s]).length = n + 1 := by rw [List.length_append, hn]; rfl
  have hnl : n ≤ 1024 := by have := wr_le hs.2.1; omega
  have hq : true = begS (pp ++ [s]) pp := by unfold begS; rw [List.take_left]; simp
  have hm0 : 0 < m := by
    have h1 := List.length_pos_iff.2 (childOf_ne hs).1
    omega
  have hz : ((m : Int) == 0) = false := by simp; omega
  have hlb : ((n : Int) + 1 != (n : Int) + 1) = false := by simp
  have hcs := rsteps_yes b bs (pp ++ [s]) m d
  rw [hpl] at hcs
  have Hn := hide hn
  have Hm := hide hm
  have Hq := hide hq
  have Hpl := hide hpl
  have Hz := hide hz
  have HX := hide hX
  have Hcs := hide hcs
  clear hn hm hq hpl hcs hz hX
  have hz := Hz.out
  go_enter Try.func42, Try.ntmps42
  have x_P : RdT w a pp := hp
  go_wp2_with fail
  refine (Hcs.out _ hr Hm.out hle hs).mono ?_
  rintro e w1 ⟨a1, c1, rfl, ⟨h1, hc1⟩, hb1⟩
  have hB2 : Below w.heap.size w w1 := by first | exact chain0 hB hb1 | exact chain1 hB hb1 | exact chain2 hB hb1 | exact chain3 hB hb1
  clear hB
  have hB := hB2
  clear hB2
  have y_P : RdT w1 a pp := by first | exact x_P.keep hb1 | exact (x_P.alloc _).keep hb1 | exact ((x_P.alloc _).alloc _).keep hb1 | exact (((x_P.alloc _).alloc _).alloc _).keep hb1
  clear x_P
  have x_P := y_P
  clear y_P
  have x_S : RdT w1 a1 (pp ++ [s]) := h1
  clear h1
  go_wp2_with fail
  refine (rbegs_any a1 a (pp ++ [s]) pp (n + 1) c1 n c true _ x_S x_P Hpl.out.symm Hn.out (by omega) (by omega) Hq.out).mono ?_
  rintro e w2 ⟨rfl, hb2⟩
  have hB2 : Below w.heap.size w w2 := by first | exact chain0 hB hb2 | exact chain1 hB hb2 | exact chain2 hB hb2 | exact chain3 hB hb2
  clear hB
  have hB := hB2
  clear hB2
  have y_P : RdT w2 a pp := by first | exact x_P.keep hb2 | exact (x_P.alloc _).keep hb2 | exact ((x_P.alloc _).alloc _).keep hb2 | exact (((x_P.alloc _).alloc _).alloc _).keep hb2
  have y_S : RdT w2 a1 (pp ++ [s]) := by first | exact x_S.keep hb2 | exact (x_S.alloc _).keep hb2 | exact ((x_S.alloc _).alloc _).keep hb2 | exact (((x_S.alloc _).alloc _).alloc _).keep hb2
  clear x_P x_S
  have x_P := y_P
  have x_S := y_S
  clear y_P y_S
  obtain ⟨b1, o1, ha1, k0⟩ := RdT.row x_S n s (by rw [Hn.out]; simp)
  rw [← HX.out] at k0
  subst ha1
  have hix := ix_txt b1 o1 (n + 1) c1 n (by omega)
  go_wp2
  go_ret2
  exact ⟨rfl, hB⟩
theorem rchild_is (a b : Option Addr) (pp : List (List Bool)) (bs : List UInt8) (s : List Bool) (X : ByteArray) (n c m d : Nat) (w : World) (hp : RdT w a pp) (hr : RdB w b bs) (hn : n = pp.length) (hm : m = bs.length) (hle : (m : Int) ≤ 9223372036854775807)
    (hX : X = txS s) (hs : ChildOf pp bs s) :
    Calls Try.prog 42 #[.slice a n c, .slice b m d] w fun e w' => e = .returned (.tuple #[.string X, .bool true]) ∧ Below w.heap.size w w' := by
  rcases hs with ⟨h1, h2⟩ | hs
  · subst h1 h2 hX
    simp only [List.length_nil] at hm
    subst hm
    exact rchild_none a b n c d w
  · exact rchild_yes a b pp bs s X n c m d w hp hr hn hm hle hX hs
theorem rchild_bad (a b : Option Addr) (pp : List (List Bool)) (bs : List UInt8) (n c m d : Nat) (w : World) (hp : RdT w a pp) (hr : RdB w b bs) (hn : n = pp.length) (hnl : n ≤ 1024) (hm : m = bs.length) (hle : (m : Int) ≤ 9223372036854775807)
    (hs : ¬ ∃ s, ChildOf pp bs s) :
    Calls Try.prog 42 #[.slice a n c, .slice b m d] w fun e w' => e = .returned (.tuple #[.string ⟨#[]⟩, .bool false]) ∧ Below w.heap.size w w' :=
  rchild_no a b pp bs n c m d w hp hr hn hnl hm (by
    rcases Nat.eq_zero_or_pos m with h | h
    · exact absurd ⟨[], .inl ⟨List.length_eq_zero_iff.1 (by omega), rfl⟩⟩ hs
    · exact h) hle (fun ⟨s, h⟩ => hs ⟨s, .inr h⟩)
end Go.Proofs.Ytofbcgehemclbaa

