/- label.Between. -/
import Derived.Test.YtofbcgehemclbaaLb8
import Derived.Test.YtofbcgehemclbaaBlx
namespace Go.Proofs.Ytofbcgehemclbaa
open Go.RowKit Bm
theorem cmpB_lex (l m : List Bool) : cmpB l m = lexB l m := by
  rw [lex_take l m, cmpB, pk_lex]
  simp
theorem compareR (l m : List Bool) (q : Int) (w : World) (hl : l.length ≤ 1048576) (hm : m.length ≤ 1048576) (hq : q = lexB l m) :
    Calls Try.prog 40 #[.agg #[.string (pk l), .int .i64 l.length], .agg #[.string (pk m), .int .i64 m.length]] w fun e w' => e = .returned (.int .i64 q) ∧ Below w.heap.size w w' := by
  have := compare_any l m w hl hm
  rw [cmpB_lex, ← hq] at this
  exact this
/-- bytes that are none, or a child of the steps pp: the child's step -/
def ChildOf (pp : List (List Bool)) (bs : List UInt8) (s : List Bool) : Prop := (bs = [] ∧ s = []) ∨ IsL bs (pp ++ [s])
theorem childOf_ne {pp : List (List Bool)} {bs : List UInt8} {s : List Bool} (h : IsL bs (pp ++ [s])) : bs ≠ [] ∧ s ≠ [] ∧ lastOne s = true ∧ s.length ≤ 1024 := by
  have h1 : lastOne s = true := h.1 s (by simp)
  have h2 := h.2.1
  have h3 := congrArg List.length h.2.2
  rw [wr_snoc, List.length_append, enc_length] at h2
  rw [length_pkL, wr_snoc, List.length_append, enc_length] at h3
  refine ⟨?_, lastOne_ne h1, h1, by omega⟩
  rintro rfl
  unfold nb at h3
  simp at h3
  omega
theorem childOf_uniq {pp : List (List Bool)} {bs : List UInt8} {s t : List Bool} (h : ChildOf pp bs s) (h' : ChildOf pp bs t) : s = t := by
  rcases h with ⟨h1, h2⟩ | h
  · rcases h' with ⟨h3, h4⟩ | h'
    · rw [h2, h4]
    · exact absurd h1 (childOf_ne h').1
  · rcases h' with ⟨h3, h4⟩ | h'
    · exact absurd h3 (childOf_ne h).1
    · have := isL_uniq h h'
      simpa using this
theorem childOf_len {pp : List (List Bool)} {bs : List UInt8} {s : List Bool} (h : ChildOf pp bs s) : s.length ≤ 1024 := by
  rcases h with ⟨_, h⟩ | h
  · rw [h]; simp
  · exact (childOf_ne h).2.2.2
theorem child_is (a b : Option Addr) (pp : List (List Bool)) (bs : List UInt8) (s : List Bool) (n c m d : Nat) (w : World) (hp : RdS w a pp) (hr : RdB w b bs) (hn : n = pp.length) (hm : m = bs.length) (hle : (m : Int) ≤ 9223372036854775807)
    (hs : ChildOf pp bs s) :
    Calls Try.prog 39 #[.slice a n c, .slice b m d] w fun e w' => e = .returned (.tuple #[.agg #[.string (pk s), .int .i64 s.length], .bool true]) ∧ Below w.heap.size w w' := by
  rcases hs with ⟨h1, h2⟩ | hs
  · subst h1 h2
    simp only [List.length_nil] at hm
    subst hm
    exact child_none a b n c d w
  · exact child_yes a b pp bs s n c m d w hp hr hn hm hle hs
theorem child_bad (a b : Option Addr) (pp : List (List Bool)) (bs : List UInt8) (n c m d : Nat) (w : World) (hp : RdS w a pp) (hr : RdB w b bs) (hn : n = pp.length) (hnl : n ≤ 1024) (hm : m = bs.length) (hle : (m : Int) ≤ 9223372036854775807)
    (hs : ¬ ∃ s, ChildOf pp bs s) :
    Calls Try.prog 39 #[.slice a n c, .slice b m d] w fun e w' => e = .returned (.tuple #[.agg #[.string ⟨#[]⟩, .int .i64 0], .bool false]) ∧ Below w.heap.size w w' :=
  child_no a b pp bs n c m d w hp hr hn hnl hm (by
    rcases Nat.eq_zero_or_pos m with h | h
    · exact absurd ⟨[], .inl ⟨List.length_eq_zero_iff.1 (by omega), rfl⟩⟩ hs
    · exact h) hle (fun ⟨s, h⟩ => hs ⟨s, .inr h⟩)
set_option maxRecDepth 100000 in
set_option maxHeartbeats 1000000 in
theorem between_noparent (a b p : Option Addr) (ps : List UInt8) (n c m d k f : Nat) (w : World) (hr : RdB w p ps) (hn : n = ps.length) (hle : (n : Int) ≤ 9223372036854775807) (hs : ¬ ∃ pp, IsL ps pp) :
    Calls Try.prog 15 #[.slice p n c, .slice a m d, .slice b k f] w fun e w' => e = .returned (.tuple #[.slice none 0 0, .int .i64 2]) ∧ Below w.heap.size w w' := by
  have hB := Below.refl w.heap.size w
  have Hn := hide hn
  have Hs := hide hs
  clear hn hs
  go_enter Try.func15, Try.ntmps15
  go_wp2_with fail
  refine (steps_no p ps n c _ hr Hn.out hle Hs.out).mono ?_
  rintro e w1 ⟨rfl, hb1⟩
  have hB2 : Below w.heap.size w w1 := by first | exact chain0 hB hb1 | exact chain1 hB hb1 | exact chain2 hB hb1 | exact chain3 hB hb1
  clear hB
  have hB := hB2
  clear hB2
  go_wp2
  go_ret2
  exact ⟨rfl, hB⟩
set_option maxRecDepth 100000 in
set_option maxHeartbeats 2000000 in
/-- the parent is right, but not both of the others are children of it, or the first is not below the second -/
theorem between_arg (p a b : Option Addr) (ps as_ bs : List UInt8) (pp : List (List Bool)) (n c m d k f : Nat) (w : World) (hr : RdB w p ps) (hra : RdB w a as_) (hrb : RdB w b bs) (hn : n = ps.length) (hm : m = as_.length) (hk : k = bs.length)
    (hle : (n : Int) ≤ 9223372036854775807) (hle2 : (m : Int) ≤ 9223372036854775807) (hle3 : (k : Int) ≤ 9223372036854775807) (hp : IsL ps pp)
    (hs : (¬ ∃ s, ChildOf pp as_ s) ∨ (¬ ∃ s, ChildOf pp bs s) ∨ ∃ s t, IsL as_ (pp ++ [s]) ∧ IsL bs (pp ++ [t]) ∧ 0 ≤ lexB s t) :
    Calls Try.prog 15 #[.slice p n c, .slice a m d, .slice b k f] w fun e w' => e = .returned (.tuple #[.slice none 0 0, .int .i64 2]) ∧ Below w.heap.size w w' := by
  have hB := Below.refl w.heap.size w
  have hpl := wr_le hp.2.1
  have Hn := hide hn
  have Hm := hide hm
  have Hk := hide hk
  clear hn hm hk
  by_cases h1 : ∃ s, ChildOf pp as_ s
  · obtain ⟨s, h1⟩ := h1
    by_cases h2 : ∃ s, ChildOf pp bs s
    · obtain ⟨s', t, k1, k2, k3⟩ : ∃ s t, IsL as_ (pp ++ [s]) ∧ IsL bs (pp ++ [t]) ∧ 0 ≤ lexB s t := by
        rcases hs with h | h | h
        · exact absurd ⟨s, h1⟩ h
        · exact absurd h2 h
        · exact h
      have e := childOf_uniq h1 (.inr k1)
      subst e
      obtain ⟨q, hq⟩ : ∃ q, q = lexB s t := ⟨_, rfl⟩
      rw [← hq] at k3
      have Hq := hide hq
      have hm1 : (0 : Int) < m := by
        have h3 := (childOf_ne k1).1
        have := Hm.out
        have := List.length_pos_iff.2 h3
        omega
      have hk1 : (0 : Int) < k := by
        have h3 := (childOf_ne k2).1
        have := Hk.out
        have := List.length_pos_iff.2 h3
        omega
      have hsl := childOf_len h1
      have htl := (childOf_ne k2).2.2.2
      have K1 := hide k1
      have K2 := hide k2
      clear hs h1 h2 k1 k2 hq
      go_enter Try.func15, Try.ntmps15
      go_wp2_with fail
      refine (steps_yes p ps pp n c _ hr Hn.out hle hp).mono ?_
      rintro e w1 ⟨a1, c1, rfl, ⟨h1, hc1⟩, hb1⟩
      have hB2 : Below w.heap.size w w1 := by first | exact chain0 hB hb1 | exact chain1 hB hb1 | exact chain2 hB hb1 | exact chain3 hB hb1
      clear hB
      have hB := hB2
      clear hB2
      have x_P : RdS w1 a1 pp := h1
      have x_A : RdB w1 a as_ := hra.keep hB
      have x_B : RdB w1 b bs := hrb.keep hB
      clear h1
      go_wp2_with fail
      refine (child_is a1 a pp as_ s _ c1 m d _ x_P x_A rfl Hm.out hle2 (.inr K1.out)).mono ?_
      rintro e w2 ⟨rfl, hb2⟩
      have hB2 : Below w.heap.size w w2 := by first | exact chain0 hB hb2 | exact chain1 hB hb2 | exact chain2 hB hb2 | exact chain3 hB hb2
      clear hB
      have hB := hB2
      clear hB2
      have y_P : RdS w2 a1 pp := by first | exact x_P.keep hb2 | exact (x_P.alloc _).keep hb2 | exact ((x_P.alloc _).alloc _).keep hb2 | exact (((x_P.alloc _).alloc _).alloc _).keep hb2
      have y_A : RdB w2 a as_ := by first | exact x_A.keep hb2 | exact (x_A.alloc _).keep hb2 | exact ((x_A.alloc _).alloc _).keep hb2 | exact (((x_A.alloc _).alloc _).alloc _).keep hb2
      have y_B : RdB w2 b bs := by first | exact x_B.keep hb2 | exact (x_B.alloc _).keep hb2 | exact ((x_B.alloc _).alloc _).keep hb2 | exact (((x_B.alloc _).alloc _).alloc _).keep hb2
      clear x_P x_A x_B
      have x_P := y_P
      have x_A := y_A
      have x_B := y_B
      clear y_P y_A y_B
      go_wp2_with fail
      obtain ⟨w3, hw3⟩ : ∃ W, W = w2.alloc (.cells #[.string (pk s), .int .i64 s.length] 50) := ⟨_, rfl⟩
      have y_P : RdS w3 a1 pp := by rw [hw3]; exact x_P.alloc _
      have y_A : RdB w3 a as_ := by rw [hw3]; exact x_A.alloc _
      have y_B : RdB w3 b bs := by rw [hw3]; exact x_B.alloc _
      have y_L : Blk w3 w2.heap.size 50 #[.string (pk s), .int .i64 s.length] := by rw [hw3]; exact Blk.new _ _ _
      have hB2 : Below w.heap.size w w3 := by rw [hw3]; exact hB.alloc hB.size _
      rw [← hw3]
      clear hB hw3 x_P x_A x_B
      have hB := hB2
      clear hB2
      have x_P := y_P
      have x_A := y_A
      have x_B := y_B
      have x_L := y_L
      clear y_P y_A y_B y_L
      go_wp2_with fail
      refine (child_is a1 b pp bs t _ c1 k f _ x_P x_B rfl Hk.out hle3 (.inr K2.out)).mono ?_
      rintro e w4 ⟨rfl, hb4⟩
      have hB2 : Below w.heap.size w w4 := by first | exact chain0 hB hb4 | exact chain1 hB hb4 | exact chain2 hB hb4 | exact chain3 hB hb4
      clear hB
      have hB := hB2
      clear hB2
      have y_P : RdS w4 a1 pp := by first | exact x_P.keep hb4 | exact (x_P.alloc _).keep hb4 | exact ((x_P.alloc _).alloc _).keep hb4 | exact (((x_P.alloc _).alloc _).alloc _).keep hb4
      have y_A : RdB w4 a as_ := by first | exact x_A.keep hb4 | exact (x_A.alloc _).keep hb4 | exact ((x_A.alloc _).alloc _).keep hb4 | exact (((x_A.alloc _).alloc _).alloc _).keep hb4
      have y_B : RdB w4 b bs := by first | exact x_B.keep hb4 | exact (x_B.alloc _).keep hb4 | exact ((x_B.alloc _).alloc _).keep hb4 | exact (((x_B.alloc _).alloc _).alloc _).keep hb4
      have y_L : Blk w4 w2.heap.size 50 #[.string (pk s), .int .i64 s.length] := by first | exact x_L.keep hb4 | exact (x_L.alloc _).keep hb4 | exact ((x_L.alloc _).alloc _).keep hb4 | exact (((x_L.alloc _).alloc _).alloc _).keep hb4
      clear x_P x_A x_B x_L
      have x_P := y_P
      have x_A := y_A
      have x_B := y_B
      have x_L := y_L
      clear y_P y_A y_B y_L
      have c_L0_1 := fun o0 => (x_L.alloc o0).cell 0
      have c_L1_1 := fun o0 => (x_L.alloc o0).cell 1
      simp only [List.getElem?_toArray, List.getElem?_cons_zero, List.getElem?_cons_succ] at c_L0_1 c_L1_1
      have d0 := (Blk.new w4 50 #[.string (pk t), .int .i64 t.length]).cell 0
      have d1 := (Blk.new w4 50 #[.string (pk t), .int .i64 t.length]).cell 1
      simp only [List.getElem?_toArray, List.getElem?_cons_zero, List.getElem?_cons_succ] at d0 d1
      go_wp2_with fail
      refine (compareR s t q _ (by omega) (by omega) Hq.out).mono ?_
      rintro e w5 ⟨rfl, hb5⟩
      have hB2 : Below w.heap.size w w5 := by first | exact chain0 hB hb5 | exact chain1 hB hb5 | exact chain2 hB hb5 | exact chain3 hB hb5
      clear hB
      have hB := hB2
      clear hB2
      have y_P : RdS w5 a1 pp := by first | exact x_P.keep hb5 | exact (x_P.alloc _).keep hb5 | exact ((x_P.alloc _).alloc _).keep hb5 | exact (((x_P.alloc _).alloc _).alloc _).keep hb5
      have y_A : RdB w5 a as_ := by first | exact x_A.keep hb5 | exact (x_A.alloc _).keep hb5 | exact ((x_A.alloc _).alloc _).keep hb5 | exact (((x_A.alloc _).alloc _).alloc _).keep hb5
      have y_B : RdB w5 b bs := by first | exact x_B.keep hb5 | exact (x_B.alloc _).keep hb5 | exact ((x_B.alloc _).alloc _).keep hb5 | exact (((x_B.alloc _).alloc _).alloc _).keep hb5
      have y_L : Blk w5 w2.heap.size 50 #[.string (pk s), .int .i64 s.length] := by first | exact x_L.keep hb5 | exact (x_L.alloc _).keep hb5 | exact ((x_L.alloc _).alloc _).keep hb5 | exact (((x_L.alloc _).alloc _).alloc _).keep hb5
      clear x_P x_A x_B x_L
      have x_P := y_P
      have x_A := y_A
      have x_B := y_B
      have x_L := y_L
      clear y_P y_A y_B y_L
      go_wp2
      go_ret2
      exact ⟨rfl, hB⟩
    · have hs1 := childOf_len h1
      have H1 := hide h1
      have H2 := hide h2
      clear hs h1 h2
      go_enter Try.func15, Try.ntmps15
      go_wp2_with fail
      refine (steps_yes p ps pp n c _ hr Hn.out hle hp).mono ?_
      rintro e w1 ⟨a1, c1, rfl, ⟨h1, hc1⟩, hb1⟩
      have hB2 : Below w.heap.size w w1 := by first | exact chain0 hB hb1 | exact chain1 hB hb1 | exact chain2 hB hb1 | exact chain3 hB hb1
      clear hB
      have hB := hB2
      clear hB2
      have x_P : RdS w1 a1 pp := h1
      have x_A : RdB w1 a as_ := hra.keep hB
      have x_B : RdB w1 b bs := hrb.keep hB
      clear h1
      go_wp2_with fail
      refine (child_is a1 a pp as_ s _ c1 m d _ x_P x_A rfl Hm.out hle2 H1.out).mono ?_
      rintro e w2 ⟨rfl, hb2⟩
      have hB2 : Below w.heap.size w w2 := by first | exact chain0 hB hb2 | exact chain1 hB hb2 | exact chain2 hB hb2 | exact chain3 hB hb2
      clear hB
      have hB := hB2
      clear hB2
      have y_P : RdS w2 a1 pp := by first | exact x_P.keep hb2 | exact (x_P.alloc _).keep hb2 | exact ((x_P.alloc _).alloc _).keep hb2 | exact (((x_P.alloc _).alloc _).alloc _).keep hb2
      have y_A : RdB w2 a as_ := by first | exact x_A.keep hb2 | exact (x_A.alloc _).keep hb2 | exact ((x_A.alloc _).alloc _).keep hb2 | exact (((x_A.alloc _).alloc _).alloc _).keep hb2
      have y_B : RdB w2 b bs := by first | exact x_B.keep hb2 | exact (x_B.alloc _).keep hb2 | exact ((x_B.alloc _).alloc _).keep hb2 | exact (((x_B.alloc _).alloc _).alloc _).keep hb2
      clear x_P x_A x_B
      have x_P := y_P
      have x_A := y_A
      have x_B := y_B
      clear y_P y_A y_B
      go_wp2_with fail
      obtain ⟨w3, hw3⟩ : ∃ W, W = w2.alloc (.cells #[.string (pk s), .int .i64 s.length] 50) := ⟨_, rfl⟩
      have y_P : RdS w3 a1 pp := by rw [hw3]; exact x_P.alloc _
      have y_A : RdB w3 a as_ := by rw [hw3]; exact x_A.alloc _
      have y_B : RdB w3 b bs := by rw [hw3]; exact x_B.alloc _
      have y_L : Blk w3 w2.heap.size 50 #[.string (pk s), .int .i64 s.length] := by rw [hw3]; exact Blk.new _ _ _
      have hB2 : Below w.heap.size w w3 := by rw [hw3]; exact hB.alloc hB.size _
      rw [← hw3]
      clear hB hw3 x_P x_A x_B
      have hB := hB2
      clear hB2
      have x_P := y_P
      have x_A := y_A
      have x_B := y_B
      have x_L := y_L
      clear y_P y_A y_B y_L
      go_wp2_with fail
      refine (child_bad a1 b pp bs _ c1 k f _ x_P x_B rfl hpl Hk.out hle3 H2.out).mono ?_
      rintro e w4 ⟨rfl, hb4⟩
      have hB2 : Below w.heap.size w w4 := by first | exact chain0 hB hb4 | exact chain1 hB hb4 | exact chain2 hB hb4 | exact chain3 hB hb4
      clear hB
      have hB := hB2
      clear hB2
      have y_P : RdS w4 a1 pp := by first | exact x_P.keep hb4 | exact (x_P.alloc _).keep hb4 | exact ((x_P.alloc _).alloc _).keep hb4 | exact (((x_P.alloc _).alloc _).alloc _).keep hb4
      have y_A : RdB w4 a as_ := by first | exact x_A.keep hb4 | exact (x_A.alloc _).keep hb4 | exact ((x_A.alloc _).alloc _).keep hb4 | exact (((x_A.alloc _).alloc _).alloc _).keep hb4
      have y_B : RdB w4 b bs := by first | exact x_B.keep hb4 | exact (x_B.alloc _).keep hb4 | exact ((x_B.alloc _).alloc _).keep hb4 | exact (((x_B.alloc _).alloc _).alloc _).keep hb4
      have y_L : Blk w4 w2.heap.size 50 #[.string (pk s), .int .i64 s.length] := by first | exact x_L.keep hb4 | exact (x_L.alloc _).keep hb4 | exact ((x_L.alloc _).alloc _).keep hb4 | exact (((x_L.alloc _).alloc _).alloc _).keep hb4
      clear x_P x_A x_B x_L
      have x_P := y_P
      have x_A := y_A
      have x_B := y_B
      have x_L := y_L
      clear y_P y_A y_B y_L
      go_wp2
      go_ret2
      exact ⟨rfl, hB.alloc hB.size _⟩
  · have H1 := hide h1
    clear hs h1
    by_cases h2 : ∃ s, ChildOf pp bs s
    · obtain ⟨t, h2⟩ := h2
      have H2 := hide h2
      clear h2
      go_enter Try.func15, Try.ntmps15
      go_wp2_with fail
      refine (steps_yes p ps pp n c _ hr Hn.out hle hp).mono ?_
      rintro e w1 ⟨a1, c1, rfl, ⟨h1, hc1⟩, hb1⟩
      have hB2 : Below w.heap.size w w1 := by first | exact chain0 hB hb1 | exact chain1 hB hb1 | exact chain2 hB hb1 | exact chain3 hB hb1
      clear hB
      have hB := hB2
      clear hB2
      have x_P : RdS w1 a1 pp := h1
      have x_A : RdB w1 a as_ := hra.keep hB
      have x_B : RdB w1 b bs := hrb.keep hB
      clear h1
      go_wp2_with fail
      refine (child_bad a1 a pp as_ _ c1 m d _ x_P x_A rfl hpl Hm.out hle2 H1.out).mono ?_
      rintro e w2 ⟨rfl, hb2⟩
      have hB2 : Below w.heap.size w w2 := by first | exact chain0 hB hb2 | exact chain1 hB hb2 | exact chain2 hB hb2 | exact chain3 hB hb2
      clear hB
      have hB := hB2
      clear hB2
      have y_P : RdS w2 a1 pp := by first | exact x_P.keep hb2 | exact (x_P.alloc _).keep hb2 | exact ((x_P.alloc _).alloc _).keep hb2 | exact (((x_P.alloc _).alloc _).alloc _).keep hb2
      have y_A : RdB w2 a as_ := by first | exact x_A.keep hb2 | exact (x_A.alloc _).keep hb2 | exact ((x_A.alloc _).alloc _).keep hb2 | exact (((x_A.alloc _).alloc _).alloc _).keep hb2
      have y_B : RdB w2 b bs := by first | exact x_B.keep hb2 | exact (x_B.alloc _).keep hb2 | exact ((x_B.alloc _).alloc _).keep hb2 | exact (((x_B.alloc _).alloc _).alloc _).keep hb2
      clear x_P x_A x_B
      have x_P := y_P
      have x_A := y_A
      have x_B := y_B
      clear y_P y_A y_B
      go_wp2_with fail
      obtain ⟨w3, hw3⟩ : ∃ W, W = w2.alloc (.cells #[.string ⟨#[]⟩, .int .i64 0] 50) := ⟨_, rfl⟩
      have y_P : RdS w3 a1 pp := by rw [hw3]; exact x_P.alloc _
      have y_A : RdB w3 a as_ := by rw [hw3]; exact x_A.alloc _
      have y_B : RdB w3 b bs := by rw [hw3]; exact x_B.alloc _
      have y_L : Blk w3 w2.heap.size 50 #[.string ⟨#[]⟩, .int .i64 0] := by rw [hw3]; exact Blk.new _ _ _
      have hB2 : Below w.heap.size w w3 := by rw [hw3]; exact hB.alloc hB.size _
      rw [← hw3]
      clear hB hw3 x_P x_A x_B
      have hB := hB2
      clear hB2
      have x_P := y_P
      have x_A := y_A
      have x_B := y_B
      have x_L := y_L
      clear y_P y_A y_B y_L
      go_wp2_with fail
      refine (child_is a1 b pp bs t _ c1 k f _ x_P x_B rfl Hk.out hle3 H2.out).mono ?_
      rintro e w4 ⟨rfl, hb4⟩
      have hB2 : Below w.heap.size w w4 := by first | exact chain0 hB hb4 | exact chain1 hB hb4 | exact chain2 hB hb4 | exact chain3 hB hb4
      clear hB
      have hB := hB2
      clear hB2
      have y_P : RdS w4 a1 pp := by first | exact x_P.keep hb4 | exact (x_P.alloc _).keep hb4 | exact ((x_P.alloc _).alloc _).keep hb4 | exact (((x_P.alloc _).alloc _).alloc _).keep hb4
      have y_A : RdB w4 a as_ := by first | exact x_A.keep hb4 | exact (x_A.alloc _).keep hb4 | exact ((x_A.alloc _).alloc _).keep hb4 | exact (((x_A.alloc _).alloc _).alloc _).keep hb4
      have y_B : RdB w4 b bs := by first | exact x_B.keep hb4 | exact (x_B.alloc _).keep hb4 | exact ((x_B.alloc _).alloc _).keep hb4 | exact (((x_B.alloc _).alloc _).alloc _).keep hb4
      have y_L : Blk w4 w2.heap.size 50 #[.string ⟨#[]⟩, .int .i64 0] := by first | exact x_L.keep hb4 | exact (x_L.alloc _).keep hb4 | exact ((x_L.alloc _).alloc _).keep hb4 | exact (((x_L.alloc _).alloc _).alloc _).keep hb4
      clear x_P x_A x_B x_L
      have x_P := y_P
      have x_A := y_A
      have x_B := y_B
      have x_L := y_L
      clear y_P y_A y_B y_L
      go_wp2
      go_ret2
      exact ⟨rfl, hB.alloc hB.size _⟩
    · have H2 := hide h2
      clear h2
      go_enter Try.func15, Try.ntmps15
      go_wp2_with fail
      refine (steps_yes p ps pp n c _ hr Hn.out hle hp).mono ?_
      rintro e w1 ⟨a1, c1, rfl, ⟨h1, hc1⟩, hb1⟩
      have hB2 : Below w.heap.size w w1 := by first | exact chain0 hB hb1 | exact chain1 hB hb1 | exact chain2 hB hb1 | exact chain3 hB hb1
      clear hB
      have hB := hB2
      clear hB2
      have x_P : RdS w1 a1 pp := h1
      have x_A : RdB w1 a as_ := hra.keep hB
      have x_B : RdB w1 b bs := hrb.keep hB
      clear h1
      go_wp2_with fail
      refine (child_bad a1 a pp as_ _ c1 m d _ x_P x_A rfl hpl Hm.out hle2 H1.out).mono ?_
      rintro e w2 ⟨rfl, hb2⟩
      have hB2 : Below w.heap.size w w2 := by first | exact chain0 hB hb2 | exact chain1 hB hb2 | exact chain2 hB hb2 | exact chain3 hB hb2
      clear hB
      have hB := hB2
      clear hB2
      have y_P : RdS w2 a1 pp := by first | exact x_P.keep hb2 | exact (x_P.alloc _).keep hb2 | exact ((x_P.alloc _).alloc _).keep hb2 | exact (((x_P.alloc _).alloc _).alloc _).keep hb2
      have y_A : RdB w2 a as_ := by first | exact x_A.keep hb2 | exact (x_A.alloc _).keep hb2 | exact ((x_A.alloc _).alloc _).keep hb2 | exact (((x_A.alloc _).alloc _).alloc _).keep hb2
      have y_B : RdB w2 b bs := by first | exact x_B.keep hb2 | exact (x_B.alloc _).keep hb2 | exact ((x_B.alloc _).alloc _).keep hb2 | exact (((x_B.alloc _).alloc _).alloc _).keep hb2
      clear x_P x_A x_B
      have x_P := y_P
      have x_A := y_A
      have x_B := y_B
      clear y_P y_A y_B
      go_wp2_with fail
      obtain ⟨w3, hw3⟩ : ∃ W, W = w2.alloc (.cells #[.string ⟨#[]⟩, .int .i64 0] 50) := ⟨_, rfl⟩
      have y_P : RdS w3 a1 pp := by rw [hw3]; exact x_P.alloc _
      have y_A : RdB w3 a as_ := by rw [hw3]; exact x_A.alloc _
      have y_B : RdB w3 b bs := by rw [hw3]; exact x_B.alloc _
      have y_L : Blk w3 w2.heap.size 50 #[.string ⟨#[]⟩, .int .i64 0] := by rw [hw3]; exact Blk.new _ _ _
      have hB2 : Below w.heap.size w w3 := by rw [hw3]; exact hB.alloc hB.size _
      rw [← hw3]
      clear hB hw3 x_P x_A x_B
      have hB := hB2
      clear hB2
      have x_P := y_P
      have x_A := y_A
      have x_B := y_B
      have x_L := y_L
      clear y_P y_A y_B y_L
      go_wp2_with fail
      refine (child_bad a1 b pp bs _ c1 k f _ x_P x_B rfl hpl Hk.out hle3 H2.out).mono ?_
      rintro e w4 ⟨rfl, hb4⟩
      have hB2 : Below w.heap.size w w4 := by first | exact chain0 hB hb4 | exact chain1 hB hb4 | exact chain2 hB hb4 | exact chain3 hB hb4
      clear hB
      have hB := hB2
      clear hB2
      have y_P : RdS w4 a1 pp := by first | exact x_P.keep hb4 | exact (x_P.alloc _).keep hb4 | exact ((x_P.alloc _).alloc _).keep hb4 | exact (((x_P.alloc _).alloc _).alloc _).keep hb4
      have y_A : RdB w4 a as_ := by first | exact x_A.keep hb4 | exact (x_A.alloc _).keep hb4 | exact ((x_A.alloc _).alloc _).keep hb4 | exact (((x_A.alloc _).alloc _).alloc _).keep hb4
      have y_B : RdB w4 b bs := by first | exact x_B.keep hb4 | exact (x_B.alloc _).keep hb4 | exact ((x_B.alloc _).alloc _).keep hb4 | exact (((x_B.alloc _).alloc _).alloc _).keep hb4
      have y_L : Blk w4 w2.heap.size 50 #[.string ⟨#[]⟩, .int .i64 0] := by first | exact x_L.keep hb4 | exact (x_L.alloc _).keep hb4 | exact ((x_L.alloc _).alloc _).keep hb4 | exact (((x_L.alloc _).alloc _).alloc _).keep hb4
      clear x_P x_A x_B x_L
      have x_P := y_P
      have x_A := y_A
      have x_B := y_B
      have x_L := y_L
      clear y_P y_A y_B y_L
      go_wp2
      go_ret2
      exact ⟨rfl, hB.alloc hB.size _⟩
/-- what Between returns, r being the child's bits -/
def BetPost (w : World) (r : List Bool) (e : Ending) (w' : World) : Prop :=
  (r.length ≤ 1024 ∧ ∃ g cap, e = .returned (.tuple #[.slice (some ⟨g, 0, none⟩) (nb r.length) cap, .int .i64 0]) ∧ Fr w.heap.size w' g cap (pkL r) ∧ Below w.heap.size w w') ∨
  (1024 < r.length ∧ e = .returned (.tuple #[.slice none 0 0, .int .i64 140]) ∧ Below w.heap.size w w')
theorem ofNil {w : World} {a : Option Addr} {ss : List (List Bool)} (h : RdS w a ss) (ha : a = none) : ss.length = 0 := by
  by_cases e : ss = []
  · rw [e]; rfl
  · obtain ⟨b, off, h1, _⟩ := Rd.addrAt h (fun e' => e (by cases ss with | nil => rfl | cons y z => cases e'))
    rw [ha] at h1; cases h1
theorem lenI (n : Nat) (bs : List UInt8) (h : n = bs.length) : (bs = [] ∧ n = 0) ∨ (bs ≠ [] ∧ (0 : Int) < n) := by
  by_cases e : bs = []
  · left; subst e; subst h; exact ⟨rfl, rfl⟩
  · right
    have := List.length_pos_iff.2 e
    exact ⟨e, by omega⟩
set_option maxRecDepth 100000 in
set_option maxHeartbeats 2000000 in
theorem between_any (p a b : Option Addr) (ps as_ bs : List UInt8) (pp : List (List Bool)) (s t r : List Bool) (n c m d k f : Nat) (w : World) (hr : RdB w p ps) (hra : RdB w a as_) (hrb : RdB w b bs) (hn : n = ps.length) (hm : m = as_.length) (hk : k = bs.length)
    (hle : (n : Int) ≤ 9223372036854775807) (hle2 : (m : Int) ≤ 9223372036854775807) (hle3 : (k : Int) ≤ 9223372036854775807) (hp : IsL ps pp)
    (hs : ChildOf pp as_ s) (ht : ChildOf pp bs t) (hlt : as_ ≠ [] → bs ≠ [] → lexB s t = -1) (hrr : r = wr (pp ++ [short s t])) :
    Calls Try.prog 15 #[.slice p n c, .slice a m d, .slice b k f] w (BetPost w r) := by
  have hB := Below.refl w.heap.size w
  have hpl := wr_le hp.2.1
  have hsl := childOf_len hs
  have htl := childOf_len ht
  have hask : Asked s t := by
    rcases ht with ⟨h1, h2⟩ | ht
    · exact .inl h2
    · obtain ⟨h1, h2, h3, _⟩ := childOf_ne ht
      right
      rcases hs with ⟨h4, h5⟩ | hs
      · exact ⟨by rw [h5]; exact lex_nil_left h2, h3⟩
      · exact ⟨hlt (childOf_ne hs).1 h1, h3⟩
  obtain ⟨x, hx⟩ : ∃ x, x = short s t := ⟨_, rfl⟩
  have hx0 : x ≠ [] := by rw [hx]; exact lastOne_ne (short_last hask)
  have hxl : x.length ≤ 1025 := by rw [hx]; have := short_len hask; omega
  rw [← hx] at hrr
  have hrl : r.length ≤ 1000000 := by
    rw [hrr, wr_snoc, List.length_append, enc_length]
    have := hp.2.1; omega
  have Hn := hide hn
  have Hm := hide hm
  have Hk := hide hk
  have Hx := hide hx
  have Hrr := hide hrr
  have Hx0 := hide hx0
  have Hask := hide hask
  have Hs := hide hs
  have Ht := hide ht
  have hsh : ∀ W, Calls Try.prog 41 #[.agg #[.string (pk s), .int .i64 s.length], .agg #[.string (pk t), .int .i64 t.length]] W fun e w' => e = .returned (.agg #[.string (pk x), .int .i64 x.length]) ∧ Below W.heap.size W w' := by
    intro W
    rw [hx]
    exact shortest_any s t W hsl htl hask
  have Hsh := hide hsh
  have hz1 := lenI m as_ hm
  have hz2 := lenI k bs hk
  obtain ⟨q, hq⟩ : ∃ q, q = lexB s t := ⟨_, rfl⟩
  have Hq := hide hq
  have hqm : as_ ≠ [] → bs ≠ [] → q = -1 := fun h1 h2 => by rw [hq]; exact hlt h1 h2
  have Hqm := hide hqm
  clear hn hm hk hx hrr hx0 hask hs ht hsh hlt hq hqm
  rcases hz1 with ⟨e1, hz1⟩ | ⟨e1, hz1⟩
  · subst hz1
    clear hz2
    go_enter Try.func15, Try.ntmps15
    go_wp2_with fail
    refine (steps_yes p ps pp n c _ hr Hn.out hle hp).mono ?_
    rintro e w1 ⟨a1, c1, rfl, ⟨h1, hc1⟩, hb1⟩
    have hB2 : Below w.heap.size w w1 := by first | exact chain0 hB hb1 | exact chain1 hB hb1 | exact chain2 hB hb1 | exact chain3 hB hb1
    clear hB
    have hB := hB2
    clear hB2
    have x_P : RdS w1 a1 pp := h1
    have x_A : RdB w1 a as_ := hra.keep hB
    have x_B : RdB w1 b bs := hrb.keep hB
    clear h1
    go_wp2_with fail
    refine (child_is a1 a pp as_ s _ c1 _ d _ x_P x_A rfl Hm.out hle2 Hs.out).mono ?_
    rintro e w2 ⟨rfl, hb2⟩
    have hB2 : Below w.heap.size w w2 := by first | exact chain0 hB hb2 | exact chain1 hB hb2 | exact chain2 hB hb2 | exact chain3 hB hb2
    clear hB
    have hB := hB2
    clear hB2
    have y_P : RdS w2 a1 pp := by first | exact x_P.keep hb2 | exact (x_P.alloc _).keep hb2 | exact ((x_P.alloc _).alloc _).keep hb2 | exact (((x_P.alloc _).alloc _).alloc _).keep hb2
    have y_A : RdB w2 a as_ := by first | exact x_A.keep hb2 | exact (x_A.alloc _).keep hb2 | exact ((x_A.alloc _).alloc _).keep hb2 | exact (((x_A.alloc _).alloc _).alloc _).keep hb2
    have y_B : RdB w2 b bs := by first | exact x_B.keep hb2 | exact (x_B.alloc _).keep hb2 | exact ((x_B.alloc _).alloc _).keep hb2 | exact (((x_B.alloc _).alloc _).alloc _).keep hb2
    clear x_P x_A x_B
    have x_P := y_P
    have x_A := y_A
    have x_B := y_B
    clear y_P y_A y_B
    go_wp2_with fail
    obtain ⟨w3, hw3⟩ : ∃ W, W = w2.alloc (.cells #[.string (pk s), .int .i64 s.length] 50) := ⟨_, rfl⟩
    have y_P : RdS w3 a1 pp := by rw [hw3]; exact x_P.alloc _
    have y_A : RdB w3 a as_ := by rw [hw3]; exact x_A.alloc _
    have y_B : RdB w3 b bs := by rw [hw3]; exact x_B.alloc _
    have y_L : Blk w3 w2.heap.size 50 #[.string (pk s), .int .i64 s.length] := by rw [hw3]; exact Blk.new _ _ _
    have hB2 : Below w.heap.size w w3 := by rw [hw3]; exact hB.alloc hB.size _
    rw [← hw3]
    clear hB hw3 x_P x_A x_B
    have hB := hB2
    clear hB2
    have x_P := y_P
    have x_A := y_A
    have x_B := y_B
    have x_L := y_L
    clear y_P y_A y_B y_L
    go_wp2_with fail
    refine (child_is a1 b pp bs t _ c1 _ f _ x_P x_B rfl Hk.out hle3 Ht.out).mono ?_
    rintro e w4 ⟨rfl, hb4⟩
    have hB2 : Below w.heap.size w w4 := by first | exact chain0 hB hb4 | exact chain1 hB hb4 | exact chain2 hB hb4 | exact chain3 hB hb4
    clear hB
    have hB := hB2
    clear hB2
    have y_P : RdS w4 a1 pp := by first | exact x_P.keep hb4 | exact (x_P.alloc _).keep hb4 | exact ((x_P.alloc _).alloc _).keep hb4 | exact (((x_P.alloc _).alloc _).alloc _).keep hb4
    have y_A : RdB w4 a as_ := by first | exact x_A.keep hb4 | exact (x_A.alloc _).keep hb4 | exact ((x_A.alloc _).alloc _).keep hb4 | exact (((x_A.alloc _).alloc _).alloc _).keep hb4
    have y_B : RdB w4 b bs := by first | exact x_B.keep hb4 | exact (x_B.alloc _).keep hb4 | exact ((x_B.alloc _).alloc _).keep hb4 | exact (((x_B.alloc _).alloc _).alloc _).keep hb4
    have y_L : Blk w4 w2.heap.size 50 #[.string (pk s), .int .i64 s.length] := by first | exact x_L.keep hb4 | exact (x_L.alloc _).keep hb4 | exact ((x_L.alloc _).alloc _).keep hb4 | exact (((x_L.alloc _).alloc _).alloc _).keep hb4
    clear x_P x_A x_B x_L
    have x_P := y_P
    have x_A := y_A
    have x_B := y_B
    have x_L := y_L
    clear y_P y_A y_B y_L
    have c_L0_1 := fun o0 => (x_L.alloc o0).cell 0
    have c_L1_1 := fun o0 => (x_L.alloc o0).cell 1
    simp only [List.getElem?_toArray, List.getElem?_cons_zero, List.getElem?_cons_succ] at c_L0_1 c_L1_1
    have d0 := (Blk.new w4 50 #[.string (pk t), .int .i64 t.length]).cell 0
    have d1 := (Blk.new w4 50 #[.string (pk t), .int .i64 t.length]).cell 1
    simp only [List.getElem?_toArray, List.getElem?_cons_zero, List.getElem?_cons_succ] at d0 d1
    go_wp2_with fail
    refine (Hsh.out _).mono ?_
    rintro e w6 ⟨rfl, hb6⟩
    have hB2 : Below w.heap.size w w6 := by first | exact chain0 hB hb6 | exact chain1 hB hb6 | exact chain2 hB hb6 | exact chain3 hB hb6
    clear hB
    have hB := hB2
    clear hB2
    have y_P : RdS w6 a1 pp := by first | exact x_P.keep hb6 | exact (x_P.alloc _).keep hb6 | exact ((x_P.alloc _).alloc _).keep hb6 | exact (((x_P.alloc _).alloc _).alloc _).keep hb6
    have y_A : RdB w6 a as_ := by first | exact x_A.keep hb6 | exact (x_A.alloc _).keep hb6 | exact ((x_A.alloc _).alloc _).keep hb6 | exact (((x_A.alloc _).alloc _).alloc _).keep hb6
    have y_B : RdB w6 b bs := by first | exact x_B.keep hb6 | exact (x_B.alloc _).keep hb6 | exact ((x_B.alloc _).alloc _).keep hb6 | exact (((x_B.alloc _).alloc _).alloc _).keep hb6
    have y_L : Blk w6 w2.heap.size 50 #[.string (pk s), .int .i64 s.length] := by first | exact x_L.keep hb6 | exact (x_L.alloc _).keep hb6 | exact ((x_L.alloc _).alloc _).keep hb6 | exact (((x_L.alloc _).alloc _).alloc _).keep hb6
    clear x_P x_A x_B x_L
    have x_P := y_P
    have x_A := y_A
    have x_B := y_B
    have x_L := y_L
    clear y_P y_A y_B y_L
    clear x_L
    have h1 := x_P
    clear x_A
    clear x_B
    clear x_P
    go_wp2_with fail
    refine (of_any a1 pp x r _ c1 _ h1 (ofNil h1) rfl hc1 (by omega) Hx0.out Hrr.out hrl).mono ?_
    rintro e w7 (⟨hr7, g, cap, rfl, hp7, hb7⟩ | ⟨hr7, rfl, hb7⟩)
    · have hz7 := hB.size
      have hB7 := chain0 hB hb7
      clear hB hb7
      go_wp2
      go_ret2
      exact .inl ⟨hr7, g, cap, rfl, hp7.mono hz7, hB7⟩
    · have hB7 := chain0 hB hb7
      clear hB hb7
      go_wp2
      go_ret2
      exact .inr ⟨hr7, rfl, hB7⟩
  · rcases hz2 with ⟨e2, hz2⟩ | ⟨e2, hz2⟩
    · subst hz2
      go_enter Try.func15, Try.ntmps15
      go_wp2_with fail
      refine (steps_yes p ps pp n c _ hr Hn.out hle hp).mono ?_
      rintro e w1 ⟨a1, c1, rfl, ⟨h1, hc1⟩, hb1⟩
      have hB2 : Below w.heap.size w w1 := by first | exact chain0 hB hb1 | exact chain1 hB hb1 | exact chain2 hB hb1 | exact chain3 hB hb1
      clear hB
      have hB := hB2
      clear hB2
      have x_P : RdS w1 a1 pp := h1
      have x_A : RdB w1 a as_ := hra.keep hB
      have x_B : RdB w1 b bs := hrb.keep hB
      clear h1
      go_wp2_with fail
      refine (child_is a1 a pp as_ s _ c1 _ d _ x_P x_A rfl Hm.out hle2 Hs.out).mono ?_
      rintro e w2 ⟨rfl, hb2⟩
      have hB2 : Below w.heap.size w w2 := by first | exact chain0 hB hb2 | exact chain1 hB hb2 | exact chain2 hB hb2 | exact chain3 hB hb2
      clear hB
      have hB := hB2
      clear hB2
      have y_P : RdS w2 a1 pp := by first | exact x_P.keep hb2 | exact (x_P.alloc _).keep hb2 | exact ((x_P.alloc _).alloc _).keep hb2 | exact (((x_P.alloc _).alloc _).alloc _).keep hb2
      have y_A : RdB w2 a as_ := by first | exact x_A.keep hb2 | exact (x_A.alloc _).keep hb2 | exact ((x_A.alloc _).alloc _).keep hb2 | exact (((x_A.alloc _).alloc _).alloc _).keep hb2
      have y_B : RdB w2 b bs := by first | exact x_B.keep hb2 | exact (x_B.alloc _).keep hb2 | exact ((x_B.alloc _).alloc _).keep hb2 | exact (((x_B.alloc _).alloc _).alloc _).keep hb2
      clear x_P x_A x_B
      have x_P := y_P
      have x_A := y_A
      have x_B := y_B
      clear y_P y_A y_B
      go_wp2_with fail
      obtain ⟨w3, hw3⟩ : ∃ W, W = w2.alloc (.cells #[.string (pk s), .int .i64 s.length] 50) := ⟨_, rfl⟩
      have y_P : RdS w3 a1 pp := by rw [hw3]; exact x_P.alloc _
      have y_A : RdB w3 a as_ := by rw [hw3]; exact x_A.alloc _
      have y_B : RdB w3 b bs := by rw [hw3]; exact x_B.alloc _
      have y_L : Blk w3 w2.heap.size 50 #[.string (pk s), .int .i64 s.length] := by rw [hw3]; exact Blk.new _ _ _
      have hB2 : Below w.heap.size w w3 := by rw [hw3]; exact hB.alloc hB.size _
      rw [← hw3]
      clear hB hw3 x_P x_A x_B
      have hB := hB2
      clear hB2
      have x_P := y_P
      have x_A := y_A
      have x_B := y_B
      have x_L := y_L
      clear y_P y_A y_B y_L
      go_wp2_with fail
      refine (child_is a1 b pp bs t _ c1 _ f _ x_P x_B rfl Hk.out hle3 Ht.out).mono ?_
      rintro e w4 ⟨rfl, hb4⟩
      have hB2 : Below w.heap.size w w4 := by first | exact chain0 hB hb4 | exact chain1 hB hb4 | exact chain2 hB hb4 | exact chain3 hB hb4
      clear hB
      have hB := hB2
      clear hB2
      have y_P : RdS w4 a1 pp := by first | exact x_P.keep hb4 | exact (x_P.alloc _).keep hb4 | exact ((x_P.alloc _).alloc _).keep hb4 | exact (((x_P.alloc _).alloc _).alloc _).keep hb4
      have y_A : RdB w4 a as_ := by first | exact x_A.keep hb4 | exact (x_A.alloc _).keep hb4 | exact ((x_A.alloc _).alloc _).keep hb4 | exact (((x_A.alloc _).alloc _).alloc _).keep hb4
      have y_B : RdB w4 b bs := by first | exact x_B.keep hb4 | exact (x_B.alloc _).keep hb4 | exact ((x_B.alloc _).alloc _).keep hb4 | exact (((x_B.alloc _).alloc _).alloc _).keep hb4
      have y_L : Blk w4 w2.heap.size 50 #[.string (pk s), .int .i64 s.length] := by first | exact x_L.keep hb4 | exact (x_L.alloc _).keep hb4 | exact ((x_L.alloc _).alloc _).keep hb4 | exact (((x_L.alloc _).alloc _).alloc _).keep hb4
      clear x_P x_A x_B x_L
      have x_P := y_P
      have x_A := y_A
      have x_B := y_B
      have x_L := y_L
      clear y_P y_A y_B y_L
      have c_L0_1 := fun o0 => (x_L.alloc o0).cell 0
      have c_L1_1 := fun o0 => (x_L.alloc o0).cell 1
      simp only [List.getElem?_toArray, List.getElem?_cons_zero, List.getElem?_cons_succ] at c_L0_1 c_L1_1
      have d0 := (Blk.new w4 50 #[.string (pk t), .int .i64 t.length]).cell 0
      have d1 := (Blk.new w4 50 #[.string (pk t), .int .i64 t.length]).cell 1
      simp only [List.getElem?_toArray, List.getElem?_cons_zero, List.getElem?_cons_succ] at d0 d1
      go_wp2_with fail
      refine (Hsh.out _).mono ?_
      rintro e w6 ⟨rfl, hb6⟩
      have hB2 : Below w.heap.size w w6 := by first | exact chain0 hB hb6 | exact chain1 hB hb6 | exact chain2 hB hb6 | exact chain3 hB hb6
      clear hB
      have hB := hB2
      clear hB2
      have y_P : RdS w6 a1 pp := by first | exact x_P.keep hb6 | exact (x_P.alloc _).keep hb6 | exact ((x_P.alloc _).alloc _).keep hb6 | exact (((x_P.alloc _).alloc _).alloc _).keep hb6
      have y_A : RdB w6 a as_ := by first | exact x_A.keep hb6 | exact (x_A.alloc _).keep hb6 | exact ((x_A.alloc _).alloc _).keep hb6 | exact (((x_A.alloc _).alloc _).alloc _).keep hb6
      have y_B : RdB w6 b bs := by first | exact x_B.keep hb6 | exact (x_B.alloc _).keep hb6 | exact ((x_B.alloc _).alloc _).keep hb6 | exact (((x_B.alloc _).alloc _).alloc _).keep hb6
      have y_L : Blk w6 w2.heap.size 50 #[.string (pk s), .int .i64 s.length] := by first | exact x_L.keep hb6 | exact (x_L.alloc _).keep hb6 | exact ((x_L.alloc _).alloc _).keep hb6 | exact (((x_L.alloc _).alloc _).alloc _).keep hb6
      clear x_P x_A x_B x_L
      have x_P := y_P
      have x_A := y_A
      have x_B := y_B
      have x_L := y_L
      clear y_P y_A y_B y_L
      clear x_L
      have h1 := x_P
      clear x_A
      clear x_B
      clear x_P
      go_wp2_with fail
      refine (of_any a1 pp x r _ c1 _ h1 (ofNil h1) rfl hc1 (by omega) Hx0.out Hrr.out hrl).mono ?_
      rintro e w7 (⟨hr7, g, cap, rfl, hp7, hb7⟩ | ⟨hr7, rfl, hb7⟩)
      · have hz7 := hB.size
        have hB7 := chain0 hB hb7
        clear hB hb7
        go_wp2
        go_ret2
        exact .inl ⟨hr7, g, cap, rfl, hp7.mono hz7, hB7⟩
      · have hB7 := chain0 hB hb7
        clear hB hb7
        go_wp2
        go_ret2
        exact .inr ⟨hr7, rfl, hB7⟩
    · have hq1 := Hqm.out e1 e2
      subst hq1
      go_enter Try.func15, Try.ntmps15
      go_wp2_with fail
      refine (steps_yes p ps pp n c _ hr Hn.out hle hp).mono ?_
      rintro e w1 ⟨a1, c1, rfl, ⟨h1, hc1⟩, hb1⟩
      have hB2 : Below w.heap.size w w1 := by first | exact chain0 hB hb1 | exact chain1 hB hb1 | exact chain2 hB hb1 | exact chain3 hB hb1
      clear hB
      have hB := hB2
      clear hB2
      have x_P : RdS w1 a1 pp := h1
      have x_A : RdB w1 a as_ := hra.keep hB
      have x_B : RdB w1 b bs := hrb.keep hB
      clear h1
      go_wp2_with fail
      refine (child_is a1 a pp as_ s _ c1 _ d _ x_P x_A rfl Hm.out hle2 Hs.out).mono ?_
      rintro e w2 ⟨rfl, hb2⟩
      have hB2 : Below w.heap.size w w2 := by first | exact chain0 hB hb2 | exact chain1 hB hb2 | exact chain2 hB hb2 | exact chain3 hB hb2
      clear hB
      have hB := hB2
      clear hB2
      have y_P : RdS w2 a1 pp := by first | exact x_P.keep hb2 | exact (x_P.alloc _).keep hb2 | exact ((x_P.alloc _).alloc _).keep hb2 | exact (((x_P.alloc _).alloc _).alloc _).keep hb2
      have y_A : RdB w2 a as_ := by first | exact x_A.keep hb2 | exact (x_A.alloc _).keep hb2 | exact ((x_A.alloc _).alloc _).keep hb2 | exact (((x_A.alloc _).alloc _).alloc _).keep hb2
      have y_B : RdB w2 b bs := by first | exact x_B.keep hb2 | exact (x_B.alloc _).keep hb2 | exact ((x_B.alloc _).alloc _).keep hb2 | exact (((x_B.alloc _).alloc _).alloc _).keep hb2
      clear x_P x_A x_B
      have x_P := y_P
      have x_A := y_A
      have x_B := y_B
      clear y_P y_A y_B
      go_wp2_with fail
      obtain ⟨w3, hw3⟩ : ∃ W, W = w2.alloc (.cells #[.string (pk s), .int .i64 s.length] 50) := ⟨_, rfl⟩
      have y_P : RdS w3 a1 pp := by rw [hw3]; exact x_P.alloc _
      have y_A : RdB w3 a as_ := by rw [hw3]; exact x_A.alloc _
      have y_B : RdB w3 b bs := by rw [hw3]; exact x_B.alloc _
      have y_L : Blk w3 w2.heap.size 50 #[.string (pk s), .int .i64 s.length] := by rw [hw3]; exact Blk.new _ _ _
      have hB2 : Below w.heap.size w w3 := by rw [hw3]; exact hB.alloc hB.size _
      rw [← hw3]
      clear hB hw3 x_P x_A x_B
      have hB := hB2
      clear hB2
      have x_P := y_P
      have x_A := y_A
      have x_B := y_B
      have x_L := y_L
      clear y_P y_A y_B y_L
      go_wp2_with fail
      refine (child_is a1 b pp bs t _ c1 _ f _ x_P x_B rfl Hk.out hle3 Ht.out).mono ?_
      rintro e w4 ⟨rfl, hb4⟩
      have hB2 : Below w.heap.size w w4 := by first | exact chain0 hB hb4 | exact chain1 hB hb4 | exact chain2 hB hb4 | exact chain3 hB hb4
      clear hB
      have hB := hB2
      clear hB2
      have y_P : RdS w4 a1 pp := by first | exact x_P.keep hb4 | exact (x_P.alloc _).keep hb4 | exact ((x_P.alloc _).alloc _).keep hb4 | exact (((x_P.alloc _).alloc _).alloc _).keep hb4
      have y_A : RdB w4 a as_ := by first | exact x_A.keep hb4 | exact (x_A.alloc _).keep hb4 | exact ((x_A.alloc _).alloc _).keep hb4 | exact (((x_A.alloc _).alloc _).alloc _).keep hb4
      have y_B : RdB w4 b bs := by first | exact x_B.keep hb4 | exact (x_B.alloc _).keep hb4 | exact ((x_B.alloc _).alloc _).keep hb4 | exact (((x_B.alloc _).alloc _).alloc _).keep hb4
      have y_L : Blk w4 w2.heap.size 50 #[.string (pk s), .int .i64 s.length] := by first | exact x_L.keep hb4 | exact (x_L.alloc _).keep hb4 | exact ((x_L.alloc _).alloc _).keep hb4 | exact (((x_L.alloc _).alloc _).alloc _).keep hb4
      clear x_P x_A x_B x_L
      have x_P := y_P
      have x_A := y_A
      have x_B := y_B
      have x_L := y_L
      clear y_P y_A y_B y_L
      have c_L0_1 := fun o0 => (x_L.alloc o0).cell 0
      have c_L1_1 := fun o0 => (x_L.alloc o0).cell 1
      simp only [List.getElem?_toArray, List.getElem?_cons_zero, List.getElem?_cons_succ] at c_L0_1 c_L1_1
      have d0 := (Blk.new w4 50 #[.string (pk t), .int .i64 t.length]).cell 0
      have d1 := (Blk.new w4 50 #[.string (pk t), .int .i64 t.length]).cell 1
      simp only [List.getElem?_toArray, List.getElem?_cons_zero, List.getElem?_cons_succ] at d0 d1
      go_wp2_with fail
      refine (compareR s t (-1) _ (by omega) (by omega) Hq.out).mono ?_
      rintro e w5 ⟨rfl, hb5⟩
      have hB2 : Below w.heap.size w w5 := by first | exact chain0 hB hb5 | exact chain1 hB hb5 | exact chain2 hB hb5 | exact chain3 hB hb5
      clear hB
      have hB := hB2
      clear hB2
      have y_P : RdS w5 a1 pp := by first | exact x_P.keep hb5 | exact (x_P.alloc _).keep hb5 | exact ((x_P.alloc _).alloc _).keep hb5 | exact (((x_P.alloc _).alloc _).alloc _).keep hb5
      have y_A : RdB w5 a as_ := by first | exact x_A.keep hb5 | exact (x_A.alloc _).keep hb5 | exact ((x_A.alloc _).alloc _).keep hb5 | exact (((x_A.alloc _).alloc _).alloc _).keep hb5
      have y_B : RdB w5 b bs := by first | exact x_B.keep hb5 | exact (x_B.alloc _).keep hb5 | exact ((x_B.alloc _).alloc _).keep hb5 | exact (((x_B.alloc _).alloc _).alloc _).keep hb5
      have y_L : Blk w5 w2.heap.size 50 #[.string (pk s), .int .i64 s.length] := by first | exact x_L.keep hb5 | exact (x_L.alloc _).keep hb5 | exact ((x_L.alloc _).alloc _).keep hb5 | exact (((x_L.alloc _).alloc _).alloc _).keep hb5
      clear x_P x_A x_B x_L
      have x_P := y_P
      have x_A := y_A
      have x_B := y_B
      have x_L := y_L
      clear y_P y_A y_B y_L
      have x_T : Blk w5 w4.heap.size 50 #[.string (pk t), .int .i64 t.length] := (Blk.new w4 _ _).keep hb5
      clear d0 d1
      have c_L0_0 := x_L.cell 0
      have c_L1_0 := x_L.cell 1
      have c_T0_0 := x_T.cell 0
      have c_T1_0 := x_T.cell 1
      simp only [List.getElem?_toArray, List.getElem?_cons_zero, List.getElem?_cons_succ] at c_L0_0 c_L1_0 c_T0_0 c_T1_0
      go_wp2_with fail
      refine (Hsh.out _).mono ?_
      rintro e w6 ⟨rfl, hb6⟩
      have hB2 : Below w.heap.size w w6 := by first | exact chain0 hB hb6 | exact chain1 hB hb6 | exact chain2 hB hb6 | exact chain3 hB hb6
      clear hB
      have hB := hB2
      clear hB2
      have y_P : RdS w6 a1 pp := by first | exact x_P.keep hb6 | exact (x_P.alloc _).keep hb6 | exact ((x_P.alloc _).alloc _).keep hb6 | exact (((x_P.alloc _).alloc _).alloc _).keep hb6
      have y_A : RdB w6 a as_ := by first | exact x_A.keep hb6 | exact (x_A.alloc _).keep hb6 | exact ((x_A.alloc _).alloc _).keep hb6 | exact (((x_A.alloc _).alloc _).alloc _).keep hb6
      have y_B : RdB w6 b bs := by first | exact x_B.keep hb6 | exact (x_B.alloc _).keep hb6 | exact ((x_B.alloc _).alloc _).keep hb6 | exact (((x_B.alloc _).alloc _).alloc _).keep hb6
      have y_L : Blk w6 w2.heap.size 50 #[.string (pk s), .int .i64 s.length] := by first | exact x_L.keep hb6 | exact (x_L.alloc _).keep hb6 | exact ((x_L.alloc _).alloc _).keep hb6 | exact (((x_L.alloc _).alloc _).alloc _).keep hb6
      have y_T : Blk w6 w4.heap.size 50 #[.string (pk t), .int .i64 t.length] := by first | exact x_T.keep hb6 | exact (x_T.alloc _).keep hb6 | exact ((x_T.alloc _).alloc _).keep hb6 | exact (((x_T.alloc _).alloc _).alloc _).keep hb6
      clear x_P x_A x_B x_L x_T
      have x_P := y_P
      have x_A := y_A
      have x_B := y_B
      have x_L := y_L
      have x_T := y_T
      clear y_P y_A y_B y_L y_T
      clear x_L
      clear x_T
      have h1 := x_P
      clear x_A
      clear x_B
      clear x_P
      go_wp2_with fail
      refine (of_any a1 pp x r _ c1 _ h1 (ofNil h1) rfl hc1 (by omega) Hx0.out Hrr.out hrl).mono ?_
      rintro e w7 (⟨hr7, g, cap, rfl, hp7, hb7⟩ | ⟨hr7, rfl, hb7⟩)
      · have hz7 := hB.size
        have hB7 := chain0 hB hb7
        clear hB hb7
        go_wp2
        go_ret2
        exact .inl ⟨hr7, g, cap, rfl, hp7.mono hz7, hB7⟩
      · have hB7 := chain0 hB hb7
        clear hB hb7
        go_wp2
        go_ret2
        exact .inr ⟨hr7, rfl, hB7⟩
end Go.Proofs.Ytofbcgehemclbaa

