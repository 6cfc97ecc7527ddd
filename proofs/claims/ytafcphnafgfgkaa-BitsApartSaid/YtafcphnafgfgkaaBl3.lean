/- BitsSay: the walk. -/
import Derived.Test.YtafcphnafgfgkaaBl2
namespace Go.Proofs.Ytafcphnafgfgkaa
open Go.RowKit Bm
theorem right_no (s : ByteArray) (w : World) (hz : s.size ≤ 1048576) (h : noTxt s) :
    Calls Try.prog 26 #[.string s] w fun e w' => e = .returned (.bool false) ∧ w = w' := by
  obtain ⟨l, h1, h2, h3⟩ := h
  have := right_gen l s w hz (by omega) h2 (fun _ => h3)
  rw [show decide (s.size = l.length) = false from by simp; omega] at this
  exact this
theorem right_yes (l : List Bool) (w : World) (hn : l.length ≤ 1048576) :
    Calls Try.prog 26 #[.string (txS l)] w fun e w' => e = .returned (.bool true) ∧ w = w' := by
  have := right_gen l (txS l) w (by rw [size_txS]; exact hn) (by rw [size_txS]; exact Nat.le_refl _) (fun k hk _ => txS_get l k hk) (fun h => by rw [size_txS] at h; omega)
  rw [show decide ((txS l).size = l.length) = true from by simp [size_txS]] at this
  exact this
theorem len_row (l : List Bool) (w : World) : Calls Try.prog 13 #[.agg #[.string (pk l), .int .i64 l.length]] w fun e w' => e = .returned (.int .i64 l.length) ∧ Below w.heap.size w w' := len_any l w
theorem len_nil (w : World) : Calls Try.prog 13 #[.agg #[.string ⟨#[]⟩, .int .i64 0]] w fun e w' => e = .returned (.int .i64 0) ∧ Below w.heap.size w w' := len_any [] w
theorem text_row (l : List Bool) (w : World) (hl : l.length ≤ 1048576) : Calls Try.prog 16 #[.agg #[.string (pk l), .int .i64 l.length]] w fun e w' => e = .returned (.string (txS l)) ∧ Below w.heap.size w w' := text_any l w hl
theorem text_none (w : World) : Calls Try.prog 16 #[.agg #[.string ⟨#[]⟩, .int .i64 0]] w fun e w' => e = .returned (.string ⟨#[]⟩) ∧ Below w.heap.size w w' := text_any [] w (by simp)
theorem at_row (l : List Bool) (i : Int) (w : World) (hn : l.length ≤ 1048576) :
    Calls Try.prog 27 #[.agg #[.string (pk l), .int .i64 l.length], .int .i64 i] w fun e w' => e = .returned (.int .i64 (atZ l i)) ∧ Below w.heap.size w w' := at_any l i w hn
theorem and_row (l m : List Bool) (w : World) (h : l.length + m.length ≤ 1048576) :
    Calls Try.prog 14 #[.agg #[.string (pk l), .int .i64 l.length], .agg #[.string (pk m), .int .i64 m.length]] w fun e w' => e = .returned (.agg #[.string (pk (l ++ m)), .int .i64 (l ++ m).length]) ∧ Below w.heap.size w w' := and_ok l m w h
theorem rand_row (l m : List Bool) (w : World) (h : l.length + m.length ≤ 1048576) :
    Calls Try.prog 29 #[.string (txS l), .string (txS m)] w fun e w' => e = .returned (.string (txS (l ++ m))) ∧ w = w' := by
  have := rand_any l m w (by omega) (by omega)
  rw [if_pos h] at this
  exact this
theorem cut_row (l : List Bool) (i n : Nat) (x y : Int) (w : World) (hx : x = i) (hy : y = (i : Int) + n) (hl : l.length ≤ 1048576) (h : i + n ≤ l.length) :
    Calls Try.prog 30 #[.agg #[.string (pk l), .int .i64 l.length], .int .i64 x, .int .i64 y] w fun e w' => e = .returned (.tuple #[.agg #[.string (pk ((l.drop i).take n)), .int .i64 ((l.drop i).take n).length], .bool true]) ∧ Below w.heap.size w w' := cut_okZ l x y i n w hx hy hl h
theorem cut_none (l : List Bool) (i j : Int) (w : World) (hl : l.length ≤ 1048576) (h : i < 0 ∨ j < i ∨ (l.length : Int) < j) :
    Calls Try.prog 30 #[.agg #[.string (pk l), .int .i64 l.length], .int .i64 i, .int .i64 j] w fun e w' => e = .returned (.tuple #[.agg #[.string ⟨#[]⟩, .int .i64 0], .bool false]) ∧ Below w.heap.size w w' := cut_no l i j w hl h
theorem txS_extract (l : List Bool) (i n : Nat) : (txS l).extract i (i + n) = txS ((l.drop i).take n) := by
  have : ((txS l).extract i (i + n)).data = (txS ((l.drop i).take n)).data := by
    rw [ByteArray.data_extract]
    simp [txS, tx, List.map_take, List.extract_eq_take_drop, List.map_drop]
  cases h1 : (txS l).extract i (i + n)
  cases h2 : txS ((l.drop i).take n)
  rw [h1, h2] at this
  simpa using this
set_option maxRecDepth 100000 in
set_option maxHeartbeats 2000000 in
theorem bitsSay_walk (a0 : ByteArray) (a1 : ByteArray) (a2 : Int) (a3 : Int) (w0 : a0.size ≤ 140737488351232) (w1 : a1.size ≤ 140737488351232) (_w2 : (Lit.int .i64 a2).wf = true) (_w3 : (Lit.int .i64 a3).wf = true) (w : World) :
    Calls Try.prog 6 #[.string a0, .string a1, .int .i64 a2, .int .i64 a3] w fun e w' => e = .returned (.bool true) ∧ Below w.heap.size w w' := by
  have hB := Below.refl w.heap.size w
  clear _w2 _w3
  by_cases hs : 5000 < (a0.size : Int) + a1.size
  · go_enter Try.func6, Try.ntmps6
    go_wp2_with fail
    refine (awake_any _).mono ?_
    rintro e w1 ⟨rfl, hb1⟩
    have hB2 : Below w.heap.size w w1 := by first | exact chain0 hB hb1 | exact chain1 hB hb1 | exact chain2 hB hb1 | exact chain3 hB hb1
    clear hB
    have hB := hB2
    clear hB2
    go_wp2
    go_ret
    exact ⟨rfl, hB⟩
  · have hs' : (a0.size : Int) + a1.size ≤ 5000 := by omega
    have hz0 : a0.size ≤ 5000 := by omega
    have hz1 : a1.size ≤ 5000 := by omega
    clear hs w0 w1
    rcases txt_cases a0 with ⟨l, rfl⟩ | h0
    · rw [size_txS] at hz0
      rcases txt_cases a1 with ⟨m, rfl⟩ | h1
      · rw [size_txS] at hz1
        have hsum : l.length + m.length ≤ 5000 := by rw [size_txS, size_txS] at hs'; omega
        have hsz := size_txS l
        obtain ⟨q, hq⟩ : ∃ q, q = l ++ m := ⟨_, rfl⟩
        have hql : q.length ≤ 5000 := by rw [hq, List.length_append]; omega
        have hand : ∀ W, Calls Try.prog 14 #[.agg #[.string (pk l), .int .i64 l.length], .agg #[.string (pk m), .int .i64 m.length]] W fun e w' => e = .returned (.agg #[.string (pk q), .int .i64 q.length]) ∧ Below W.heap.size W w' := fun W => by rw [hq]; exact and_row l m W (by omega)
        have hrand : ∀ W, Calls Try.prog 29 #[.string (txS l), .string (txS m)] W fun e w' => e = .returned (.string (txS q)) ∧ W = w' := fun W => by rw [hq]; exact rand_row l m W (by omega)
        have Hand := hide hand
        have Hrand := hide hrand
        clear hq hand hrand
        go_enter Try.func6, Try.ntmps6
        go_wp2_with fail
        refine (awake_any _).mono ?_
        rintro e w1 ⟨rfl, hb1⟩
        have hB2 : Below w.heap.size w w1 := by first | exact chain0 hB hb1 | exact chain1 hB hb1 | exact chain2 hB hb1 | exact chain3 hB hb1
        clear hB
        have hB := hB2
        clear hB2
        go_wp2_with fail
        refine (of_yes l _ (by omega)).mono ?_
        rintro e w2 ⟨rfl, hb2⟩
        have hB2 : Below w.heap.size w w2 := by first | exact chain0 hB hb2 | exact chain1 hB hb2 | exact chain2 hB hb2 | exact chain3 hB hb2
        clear hB
        have hB := hB2
        clear hB2
        go_wp2_with fail
        refine (right_yes l _ (by omega)).mono ?_
        rintro e w2' ⟨rfl, rfl⟩
        go_wp2_with fail
        refine (of_yes m _ (by omega)).mono ?_
        rintro e w3 ⟨rfl, hb3⟩
        have hB2 : Below w.heap.size w w3 := by first | exact chain0 hB hb3 | exact chain1 hB hb3 | exact chain2 hB hb3 | exact chain3 hB hb3
        clear hB
        have hB := hB2
        clear hB2
        have x_A : Blk w3 w2.heap.size 26 #[.string (pk l), .int .i64 l.length] := (Blk.new w2 _ _).keep hb3
        have c_A0_1 := fun o0 => (x_A.alloc o0).cell 0
        have c_A1_1 := fun o0 => (x_A.alloc o0).cell 1
        simp only [List.getElem?_toArray, List.getElem?_cons_zero, List.getElem?_cons_succ] at c_A0_1 c_A1_1
        go_wp2_with fail
        refine (len_row l _).mono ?_
        rintro e w4 ⟨rfl, hb4⟩
        have hB2 : Below w.heap.size w w4 := by first | exact chain0 hB hb4 | exact chain1 hB hb4 | exact chain2 hB hb4 | exact chain3 hB hb4
        clear hB
        have hB := hB2
        clear hB2
        have y_A : Blk w4 w2.heap.size 26 #[.string (pk l), .int .i64 l.length] := by first | exact x_A.keep hb4 | exact (x_A.alloc _).keep hb4 | exact ((x_A.alloc _).alloc _).keep hb4 | exact (((x_A.alloc _).alloc _).alloc _).keep hb4
        clear x_A
        have x_A := y_A
        clear y_A
        have x_B : Blk w4 w3.heap.size 26 #[.string (pk m), .int .i64 m.length] := (Blk.new w3 _ _).keep hb4
        have c_A0_0 := x_A.cell 0
        have c_A1_0 := x_A.cell 1
        have c_B0_0 := x_B.cell 0
        have c_B1_0 := x_B.cell 1
        simp only [List.getElem?_toArray, List.getElem?_cons_zero, List.getElem?_cons_succ] at c_A0_0 c_A1_0 c_B0_0 c_B1_0
        go_wp2_with fail
        refine (text_row l _ (by omega)).mono ?_
        rintro e w5 ⟨rfl, hb5⟩
        have hB2 : Below w.heap.size w w5 := by first | exact chain0 hB hb5 | exact chain1 hB hb5 | exact chain2 hB hb5 | exact chain3 hB hb5
        clear hB
        have hB := hB2
        clear hB2
        have y_A : Blk w5 w2.heap.size 26 #[.string (pk l), .int .i64 l.length] := by first | exact x_A.keep hb5 | exact (x_A.alloc _).keep hb5 | exact ((x_A.alloc _).alloc _).keep hb5 | exact (((x_A.alloc _).alloc _).alloc _).keep hb5
        have y_B : Blk w5 w3.heap.size 26 #[.string (pk m), .int .i64 m.length] := by first | exact x_B.keep hb5 | exact (x_B.alloc _).keep hb5 | exact ((x_B.alloc _).alloc _).keep hb5 | exact (((x_B.alloc _).alloc _).alloc _).keep hb5
        clear x_A x_B
        have x_A := y_A
        have x_B := y_B
        clear y_A y_B
        have c_A0_0 := x_A.cell 0
        have c_A1_0 := x_A.cell 1
        have c_B0_0 := x_B.cell 0
        have c_B1_0 := x_B.cell 1
        simp only [List.getElem?_toArray, List.getElem?_cons_zero, List.getElem?_cons_succ] at c_A0_0 c_A1_0 c_B0_0 c_B1_0
        go_wp2_with fail
        refine (at_row l a2 _ (by omega)).mono ?_
        rintro e w6 ⟨rfl, hb6⟩
        have hB2 : Below w.heap.size w w6 := by first | exact chain0 hB hb6 | exact chain1 hB hb6 | exact chain2 hB hb6 | exact chain3 hB hb6
        clear hB
        have hB := hB2
        clear hB2
        have y_A : Blk w6 w2.heap.size 26 #[.string (pk l), .int .i64 l.length] := by first | exact x_A.keep hb6 | exact (x_A.alloc _).keep hb6 | exact ((x_A.alloc _).alloc _).keep hb6 | exact (((x_A.alloc _).alloc _).alloc _).keep hb6
        have y_B : Blk w6 w3.heap.size 26 #[.string (pk m), .int .i64 m.length] := by first | exact x_B.keep hb6 | exact (x_B.alloc _).keep hb6 | exact ((x_B.alloc _).alloc _).keep hb6 | exact (((x_B.alloc _).alloc _).alloc _).keep hb6
        clear x_A x_B
        have x_A := y_A
        have x_B := y_B
        clear y_A y_B
        go_wp2_with fail
        refine (rat_any l a2 _ (by omega)).mono ?_
        rintro e w6' ⟨rfl, rfl⟩
        have c_A0_0 := x_A.cell 0
        have c_A1_0 := x_A.cell 1
        have c_B0_0 := x_B.cell 0
        have c_B1_0 := x_B.cell 1
        simp only [List.getElem?_toArray, List.getElem?_cons_zero, List.getElem?_cons_succ] at c_A0_0 c_A1_0 c_B0_0 c_B1_0
        go_wp2_with fail
        refine (Hand.out _).mono ?_
        rintro e w7 ⟨rfl, hb7⟩
        have hB2 : Below w.heap.size w w7 := by first | exact chain0 hB hb7 | exact chain1 hB hb7 | exact chain2 hB hb7 | exact chain3 hB hb7
        clear hB
        have hB := hB2
        clear hB2
        have y_A : Blk w7 w2.heap.size 26 #[.string (pk l), .int .i64 l.length] := by first | exact x_A.keep hb7 | exact (x_A.alloc _).keep hb7 | exact ((x_A.alloc _).alloc _).keep hb7 | exact (((x_A.alloc _).alloc _).alloc _).keep hb7
        have y_B : Blk w7 w3.heap.size 26 #[.string (pk m), .int .i64 m.length] := by first | exact x_B.keep hb7 | exact (x_B.alloc _).keep hb7 | exact ((x_B.alloc _).alloc _).keep hb7 | exact (((x_B.alloc _).alloc _).alloc _).keep hb7
        clear x_A x_B
        have x_A := y_A
        have x_B := y_B
        clear y_A y_B
        go_wp2_with fail
        refine (text_row q _ (by omega)).mono ?_
        rintro e w8 ⟨rfl, hb8⟩
        have hB2 : Below w.heap.size w w8 := by first | exact chain0 hB hb8 | exact chain1 hB hb8 | exact chain2 hB hb8 | exact chain3 hB hb8
        clear hB
        have hB := hB2
        clear hB2
        have y_A : Blk w8 w2.heap.size 26 #[.string (pk l), .int .i64 l.length] := by first | exact x_A.keep hb8 | exact (x_A.alloc _).keep hb8 | exact ((x_A.alloc _).alloc _).keep hb8 | exact (((x_A.alloc _).alloc _).alloc _).keep hb8
        have y_B : Blk w8 w3.heap.size 26 #[.string (pk m), .int .i64 m.length] := by first | exact x_B.keep hb8 | exact (x_B.alloc _).keep hb8 | exact ((x_B.alloc _).alloc _).keep hb8 | exact (((x_B.alloc _).alloc _).alloc _).keep hb8
        clear x_A x_B
        have x_A := y_A
        have x_B := y_B
        clear y_A y_B
        go_wp2_with fail
        refine (Hrand.out _).mono ?_
        rintro e w8' ⟨rfl, rfl⟩
        have c_A0_0 := x_A.cell 0
        have c_A1_0 := x_A.cell 1
        have c_B0_0 := x_B.cell 0
        have c_B1_0 := x_B.cell 1
        simp only [List.getElem?_toArray, List.getElem?_cons_zero, List.getElem?_cons_succ] at c_A0_0 c_A1_0 c_B0_0 c_B1_0
        by_cases hmay : 0 ≤ a2 ∧ a2 ≤ a3 ∧ a3 ≤ l.length
        · obtain ⟨i, rfl⟩ := Int.eq_ofNat_of_zero_le hmay.1
          obtain ⟨n, hn⟩ := Int.eq_ofNat_of_zero_le (show 0 ≤ a3 - i by omega)
          obtain rfl : a3 = (i : Int) + n := by omega
          have hin : i + n ≤ l.length := by omega
          obtain ⟨c, hc⟩ : ∃ c, c = (l.drop i).take n := ⟨_, rfl⟩
          have hcl : c.length ≤ 5000 := by rw [hc, List.length_take]; omega
          have hcut : ∀ W, Calls Try.prog 30 #[.agg #[.string (pk l), .int .i64 l.length], .int .i64 i, .int .i64 ((i : Int) + n)] W fun e w' => e = .returned (.tuple #[.agg #[.string (pk c), .int .i64 c.length], .bool true]) ∧ Below W.heap.size W w' := fun W => by rw [hc]; exact cut_row l i n _ _ W rfl rfl (by omega) hin
          have hext : ((txS c).toList == ((txS l).extract i (i + n)).toList) = true := by rw [txS_extract, hc]; simp
          have Hcut := hide hcut
          have k1 : (0 : Int) ≤ i := by omega
          have k2 : (i : Int) ≤ i + n := by omega
          have k3 : (i : Int) + n ≤ l.length := by omega
          clear hn hc hcut hmay
          go_wp2_with fail
          refine (Hcut.out _).mono ?_
          rintro e w9 ⟨rfl, hb9⟩
          have hB2 : Below w.heap.size w w9 := by first | exact chain0 hB hb9 | exact chain1 hB hb9 | exact chain2 hB hb9 | exact chain3 hB hb9
          clear hB
          have hB := hB2
          clear hB2
          have y_A : Blk w9 w2.heap.size 26 #[.string (pk l), .int .i64 l.length] := by first | exact x_A.keep hb9 | exact (x_A.alloc _).keep hb9 | exact ((x_A.alloc _).alloc _).keep hb9 | exact (((x_A.alloc _).alloc _).alloc _).keep hb9
          have y_B : Blk w9 w3.heap.size 26 #[.string (pk m), .int .i64 m.length] := by first | exact x_B.keep hb9 | exact (x_B.alloc _).keep hb9 | exact ((x_B.alloc _).alloc _).keep hb9 | exact (((x_B.alloc _).alloc _).alloc _).keep hb9
          clear x_A x_B
          have x_A := y_A
          have x_B := y_B
          clear y_A y_B
          go_wp2_with fail
          obtain ⟨wz, hwz⟩ : ∃ wz, wz = w9.alloc (.cells #[.string (pk c), .int .i64 c.length] 26) := ⟨_, rfl⟩
          have q1 : wz.cell? ⟨w9.heap.size, 0, none⟩ = some (.string (pk c)) := by rw [hwz]; exact (Blk.new _ _ _).cell 0
          have q2 : wz.cell? ⟨w9.heap.size, 1, none⟩ = some (.int .i64 c.length) := by rw [hwz]; exact (Blk.new _ _ _).cell 1
          have hBz : Below w.heap.size w wz := by rw [hwz]; exact hB.alloc hB.size _
          rw [← hwz]
          clear hwz hB c_A0_0 c_A1_0 c_B0_0 c_B1_0 x_A x_B
          have l1 := later_cell q1
          have l2 := later_cell q2
          clear q1 q2
          refine wp_region_later (by kernel_rfl) (by kernel_rfl) ?_
          repeat (go_big_quiet_step ((go_at_call 16; exact later_of (text_row c _ (by omega)))))
          refine wpQuiet_nil ?_
          intro _ hw'
          obtain ⟨y, hw''⟩ := hw'
          subst hw''
          go_wp2
          go_ret
          exact ⟨rfl, chain0 hBz y.2⟩
        · have hno : a2 < 0 ∨ a3 < a2 ∨ (l.length : Int) < a3 := by omega
          have hcut : ∀ W, Calls Try.prog 30 #[.agg #[.string (pk l), .int .i64 l.length], .int .i64 a2, .int .i64 a3] W fun e w' => e = .returned (.tuple #[.agg #[.string ⟨#[]⟩, .int .i64 0], .bool false]) ∧ Below W.heap.size W w' := fun W => cut_none l a2 a3 W (by omega) hno
          have Hcut := hide hcut
          clear hmay hcut
          go_wp2_with fail
          refine (Hcut.out _).mono ?_
          rintro e w9 ⟨rfl, hb9⟩
          have hB2 : Below w.heap.size w w9 := by first | exact chain0 hB hb9 | exact chain1 hB hb9 | exact chain2 hB hb9 | exact chain3 hB hb9
          clear hB
          have hB := hB2
          clear hB2
          have y_A : Blk w9 w2.heap.size 26 #[.string (pk l), .int .i64 l.length] := by first | exact x_A.keep hb9 | exact (x_A.alloc _).keep hb9 | exact ((x_A.alloc _).alloc _).keep hb9 | exact (((x_A.alloc _).alloc _).alloc _).keep hb9
          have y_B : Blk w9 w3.heap.size 26 #[.string (pk m), .int .i64 m.length] := by first | exact x_B.keep hb9 | exact (x_B.alloc _).keep hb9 | exact ((x_B.alloc _).alloc _).keep hb9 | exact (((x_B.alloc _).alloc _).alloc _).keep hb9
          clear x_A x_B
          have x_A := y_A
          have x_B := y_B
          clear y_A y_B
          have hno3 : (decide (0 ≤ a2) = false) ∨ (0 ≤ a2 ∧ decide (a2 ≤ a3) = false) ∨ (0 ≤ a2 ∧ a2 ≤ a3 ∧ decide (a3 ≤ (l.length : Int)) = false) := by
            simp only [decide_eq_false_iff_not]; omega
          clear hno c_A0_0 c_A1_0 c_B0_0 c_B1_0 x_A x_B
          rcases hno3 with n1 | ⟨n1, n2⟩ | ⟨n1, n2, n3⟩
          all_goals
            go_wp2_with fail
            obtain ⟨wz, hwz⟩ : ∃ wz, wz = w9.alloc (.cells #[.string ⟨#[]⟩, .int .i64 0] 26) := ⟨_, rfl⟩
            have q1 : wz.cell? ⟨w9.heap.size, 0, none⟩ = some (.string ⟨#[]⟩) := by rw [hwz]; exact (Blk.new _ _ _).cell 0
            have q2 : wz.cell? ⟨w9.heap.size, 1, none⟩ = some (.int .i64 0) := by rw [hwz]; exact (Blk.new _ _ _).cell 1
            have hBz : Below w.heap.size w wz := by rw [hwz]; exact hB.alloc hB.size _
            rw [← hwz]
            clear hwz hB
            have l1 := later_cell q1
            have l2 := later_cell q2
            clear q1 q2
            refine wp_region_later (by kernel_rfl) (by kernel_rfl) ?_
            repeat (go_big_quiet_step ((go_at_call 13; exact later_of (len_nil _))))
            refine wpQuiet_nil ?_
            intro _ hw'
            obtain ⟨y, hw''⟩ := hw'
            subst hw''
            go_wp2
            go_ret
            exact ⟨rfl, chain0 hBz y.2⟩
      · go_enter Try.func6, Try.ntmps6
        go_wp2_with fail
        refine (awake_any _).mono ?_
        rintro e w1 ⟨rfl, hb1⟩
        have hB2 : Below w.heap.size w w1 := by first | exact chain0 hB hb1 | exact chain1 hB hb1 | exact chain2 hB hb1 | exact chain3 hB hb1
        clear hB
        have hB := hB2
        clear hB2
        go_wp2_with fail
        refine (of_yes l _ (by omega)).mono ?_
        rintro e w2 ⟨rfl, hb2⟩
        have hB2 : Below w.heap.size w w2 := by first | exact chain0 hB hb2 | exact chain1 hB hb2 | exact chain2 hB hb2 | exact chain3 hB hb2
        clear hB
        have hB := hB2
        clear hB2
        go_wp2_with fail
        refine (right_yes l _ (by omega)).mono ?_
        rintro e w2' ⟨rfl, rfl⟩
        go_wp2_with fail
        refine (of_no a1 _ (by omega) h1).mono ?_
        rintro e w3 ⟨rfl, hb3⟩
        have hB2 : Below w.heap.size w w3 := by first | exact chain0 hB hb3 | exact chain1 hB hb3 | exact chain2 hB hb3 | exact chain3 hB hb3
        clear hB
        have hB := hB2
        clear hB2
        go_wp2
        go_ret
        exact ⟨rfl, hB.alloc hB.size _⟩
    · go_enter Try.func6, Try.ntmps6
      go_wp2_with fail
      refine (awake_any _).mono ?_
      rintro e w1 ⟨rfl, hb1⟩
      have hB2 : Below w.heap.size w w1 := by first | exact chain0 hB hb1 | exact chain1 hB hb1 | exact chain2 hB hb1 | exact chain3 hB hb1
      clear hB
      have hB := hB2
      clear hB2
      go_wp2_with fail
      refine (of_no a0 _ (by omega) h0).mono ?_
      rintro e w2 ⟨rfl, hb2⟩
      have hB2 : Below w.heap.size w w2 := by first | exact chain0 hB hb2 | exact chain1 hB hb2 | exact chain2 hB hb2 | exact chain3 hB hb2
      clear hB
      have hB := hB2
      clear hB2
      go_wp2_with fail
      refine (right_no a0 _ (by omega) h0).mono ?_
      rintro e w2' ⟨rfl, rfl⟩
      go_wp2_with fail
      refine (len_nil _).mono ?_
      rintro e w3 ⟨rfl, hb3⟩
      have hB2 : Below w.heap.size w w3 := by first | exact chain0 hB hb3 | exact chain1 hB hb3 | exact chain2 hB hb3 | exact chain3 hB hb3
      clear hB
      have hB := hB2
      clear hB2
      have x_A : Blk w3 w2.heap.size 26 #[.string ⟨#[]⟩, .int .i64 0] := (Blk.new w2 _ _).keep hb3
      have c_A0_0 := x_A.cell 0
      have c_A1_0 := x_A.cell 1
      simp only [List.getElem?_toArray, List.getElem?_cons_zero, List.getElem?_cons_succ] at c_A0_0 c_A1_0
      go_wp2_with fail
      refine (text_none _).mono ?_
      rintro e w4 ⟨rfl, hb4⟩
      have hB2 : Below w.heap.size w w4 := by first | exact chain0 hB hb4 | exact chain1 hB hb4 | exact chain2 hB hb4 | exact chain3 hB hb4
      clear hB
      have hB := hB2
      clear hB2
      have y_A : Blk w4 w2.heap.size 26 #[.string ⟨#[]⟩, .int .i64 0] := by first | exact x_A.keep hb4 | exact (x_A.alloc _).keep hb4 | exact ((x_A.alloc _).alloc _).keep hb4 | exact (((x_A.alloc _).alloc _).alloc _).keep hb4
      clear x_A
      have x_A := y_A
      clear y_A
      go_wp2
      go_ret
      exact ⟨rfl, hB⟩
end Go.Proofs.Ytafcphnafgfgkaa

