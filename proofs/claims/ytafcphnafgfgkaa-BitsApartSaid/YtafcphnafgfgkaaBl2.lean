/- BitsStand: the walk. -/
import Derived.Test.YtafcphnafgfgkaaBl0
import Derived.Test.YtafcphnafgfgkaaBlx
namespace Go.Proofs.Ytafcphnafgfgkaa
open Go.RowKit Bm
/-- a text that is no row -/
def noTxt (s : ByteArray) : Prop := ∃ l : List Bool, ∃ h : l.length < s.size, (∀ (k : Nat) (h : k < s.size), k < l.length → s[k]'h = if l.getD k false then 49 else 48) ∧ s[l.length]'h ≠ 48 ∧ s[l.length]'h ≠ 49
theorem of_no (s : ByteArray) (w : World) (hz : s.size ≤ 1048576) (h : noTxt s) :
    Calls Try.prog 12 #[.string s] w fun e w' => e = .returned (.tuple #[.agg #[.string ⟨#[]⟩, .int .i64 0], .bool false]) ∧ Below w.heap.size w w' := by
  obtain ⟨l, h1, h2, h3⟩ := h
  exact of_bad l s w hz h1 h2 h3
theorem of_yes (l : List Bool) (w : World) (hn : l.length ≤ 1048576) :
    Calls Try.prog 12 #[.string (txS l)] w fun e w' => e = .returned (.tuple #[.agg #[.string (pk l), .int .i64 l.length], .bool true]) ∧ Below w.heap.size w w' := of_ok l w hn
theorem cmpB_lex (l m : List Bool) : cmpB l m = lexB l m := by
  rw [lex_take l m, cmpB, pk_lex]
  simp
theorem compare_lex (l m : List Bool) (w : World) (hl : l.length ≤ 1048576) (hm : m.length ≤ 1048576) :
    Calls Try.prog 31 #[.agg #[.string (pk l), .int .i64 l.length], .agg #[.string (pk m), .int .i64 m.length]] w fun e w' => e = .returned (.int .i64 (lexB l m)) ∧ Below w.heap.size w w' := by
  have := compare_any l m w hl hm
  rw [cmpB_lex] at this
  exact this
theorem begins_lex (l m : List Bool) (w : World) (hl : l.length ≤ 1048576) (hm : m.length ≤ 1048576) :
    Calls Try.prog 33 #[.agg #[.string (pk l), .int .i64 l.length], .agg #[.string (pk m), .int .i64 m.length]] w fun e w' => e = .returned (.bool (decide (l.take m.length = m))) ∧ Below w.heap.size w w' := begins_any l m w hl hm
set_option maxRecDepth 100000 in
set_option maxHeartbeats 1000000 in
theorem bitsStand_walk (a0 : ByteArray) (a1 : ByteArray) (w0 : a0.size ≤ 140737488351232) (w1 : a1.size ≤ 140737488351232) (w : World) :
    Calls Try.prog 8 #[.string a0, .string a1] w fun e w' => e = .returned (.bool true) ∧ Below w.heap.size w w' := by
  have hB := Below.refl w.heap.size w
  by_cases hs : 5000 < (a0.size : Int) + a1.size
  · go_enter Try.func8, Try.ntmps8
    go_wp2_with fail
    refine (awake_any _).mono ?_
    rintro e w1 ⟨rfl, hb1⟩
    have hB2 : Below w.heap.size w w1 := by first | exact chain0 hB hb1 | exact chain1 hB hb1 | exact chain2 hB hb1 | exact chain3 hB hb1
    clear hB
    have hB := hB2
    clear hB2
    go_wp2
    go_ret
    exact ⟨rfl, hB⟩
  · have hs' : (a0.size : Int) + a1.size ≤ 5000 := by omega
    have hz0 : a0.size ≤ 5000 := by omega
    have hz1 : a1.size ≤ 5000 := by omega
    clear hs w0 w1
    rcases txt_cases a0 with ⟨l, rfl⟩ | h0
    · rw [size_txS] at hz0
      rcases txt_cases a1 with ⟨m, rfl⟩ | h1
      · rw [size_txS] at hz1
        go_enter Try.func8, Try.ntmps8
        go_wp2_with fail
        refine (awake_any _).mono ?_
        rintro e w1 ⟨rfl, hb1⟩
        have hB2 : Below w.heap.size w w1 := by first | exact chain0 hB hb1 | exact chain1 hB hb1 | exact chain2 hB hb1 | exact chain3 hB hb1
        clear hB
        have hB := hB2
        clear hB2
        go_wp2_with fail
        refine (of_yes l _ (by omega)).mono ?_
        rintro e w2 ⟨rfl, hb2⟩
        have hB2 : Below w.heap.size w w2 := by first | exact chain0 hB hb2 | exact chain1 hB hb2 | exact chain2 hB hb2 | exact chain3 hB hb2
        clear hB
        have hB := hB2
        clear hB2
        go_wp2_with fail
        refine (of_yes m _ (by omega)).mono ?_
        rintro e w3 ⟨rfl, hb3⟩
        have hB2 : Below w.heap.size w w3 := by first | exact chain0 hB hb3 | exact chain1 hB hb3 | exact chain2 hB hb3 | exact chain3 hB hb3
        clear hB
        have hB := hB2
        clear hB2
        have x_A : Blk w3 w2.heap.size 26 #[.string (pk l), .int .i64 l.length] := (Blk.new w2 _ _).keep hb3
        have c_A0_1 := fun o0 => (x_A.alloc o0).cell 0
        have c_A1_1 := fun o0 => (x_A.alloc o0).cell 1
        simp only [List.getElem?_toArray, List.getElem?_cons_zero, List.getElem?_cons_succ] at c_A0_1 c_A1_1
        go_wp2_with fail
        refine (compare_lex l m _ (by omega) (by omega)).mono ?_
        rintro e w4 ⟨rfl, hb4⟩
        have hB2 : Below w.heap.size w w4 := by first | exact chain0 hB hb4 | exact chain1 hB hb4 | exact chain2 hB hb4 | exact chain3 hB hb4
        clear hB
        have hB := hB2
        clear hB2
        have y_A : Blk w4 w2.heap.size 26 #[.string (pk l), .int .i64 l.length] := by first | exact x_A.keep hb4 | exact (x_A.alloc _).keep hb4 | exact ((x_A.alloc _).alloc _).keep hb4 | exact (((x_A.alloc _).alloc _).alloc _).keep hb4
        clear x_A
        have x_A := y_A
        clear y_A
        have x_B : Blk w4 w3.heap.size 26 #[.string (pk m), .int .i64 m.length] := (Blk.new w3 _ _).keep hb4
        have c_A0_0 := x_A.cell 0
        have c_A1_0 := x_A.cell 1
        have c_B0_0 := x_B.cell 0
        have c_B1_0 := x_B.cell 1
        simp only [List.getElem?_toArray, List.getElem?_cons_zero, List.getElem?_cons_succ] at c_A0_0 c_A1_0 c_B0_0 c_B1_0
        go_wp2_with fail
        refine (rcmp_any l m _ (by omega) (by omega)).mono ?_
        rintro e w5 ⟨rfl, hb5⟩
        have hB2 : Below w.heap.size w w5 := by first | exact chain0 hB hb5 | exact chain1 hB hb5 | exact chain2 hB hb5 | exact chain3 hB hb5
        clear hB
        have hB := hB2
        clear hB2
        have y_A : Blk w5 w2.heap.size 26 #[.string (pk l), .int .i64 l.length] := by first | exact x_A.keep hb5 | exact (x_A.alloc _).keep hb5 | exact ((x_A.alloc _).alloc _).keep hb5 | exact (((x_A.alloc _).alloc _).alloc _).keep hb5
        have y_B : Blk w5 w3.heap.size 26 #[.string (pk m), .int .i64 m.length] := by first | exact x_B.keep hb5 | exact (x_B.alloc _).keep hb5 | exact ((x_B.alloc _).alloc _).keep hb5 | exact (((x_B.alloc _).alloc _).alloc _).keep hb5
        clear x_A x_B
        have x_A := y_A
        have x_B := y_B
        clear y_A y_B
        have heq : (lexB l m == lexB l m) = true := by simp
        have c_A0_0 := x_A.cell 0
        have c_A1_0 := x_A.cell 1
        have c_B0_0 := x_B.cell 0
        have c_B1_0 := x_B.cell 1
        simp only [List.getElem?_toArray, List.getElem?_cons_zero, List.getElem?_cons_succ] at c_A0_0 c_A1_0 c_B0_0 c_B1_0
        go_wp2_with fail
        refine (begins_lex l m _ (by omega) (by omega)).mono ?_
        rintro e w6 ⟨rfl, hb6⟩
        have hB2 : Below w.heap.size w w6 := by first | exact chain0 hB hb6 | exact chain1 hB hb6 | exact chain2 hB hb6 | exact chain3 hB hb6
        clear hB
        have hB := hB2
        clear hB2
        have y_A : Blk w6 w2.heap.size 26 #[.string (pk l), .int .i64 l.length] := by first | exact x_A.keep hb6 | exact (x_A.alloc _).keep hb6 | exact ((x_A.alloc _).alloc _).keep hb6 | exact (((x_A.alloc _).alloc _).alloc _).keep hb6
        have y_B : Blk w6 w3.heap.size 26 #[.string (pk m), .int .i64 m.length] := by first | exact x_B.keep hb6 | exact (x_B.alloc _).keep hb6 | exact ((x_B.alloc _).alloc _).keep hb6 | exact (((x_B.alloc _).alloc _).alloc _).keep hb6
        clear x_A x_B
        have x_A := y_A
        have x_B := y_B
        clear y_A y_B
        go_wp2_with fail
        refine (rbegins_any l m _ (by omega) (by omega)).mono ?_
        rintro e w7 ⟨rfl, rfl⟩
        have heq2 : (decide (l.take m.length = m) == decide (l.take m.length = m)) = true := by simp
        go_wp2
        go_ret
        exact ⟨ret_bool (by simp), hB⟩
      · go_enter Try.func8, Try.ntmps8
        go_wp2_with fail
        refine (awake_any _).mono ?_
        rintro e w1 ⟨rfl, hb1⟩
        have hB2 : Below w.heap.size w w1 := by first | exact chain0 hB hb1 | exact chain1 hB hb1 | exact chain2 hB hb1 | exact chain3 hB hb1
        clear hB
        have hB := hB2
        clear hB2
        go_wp2_with fail
        refine (of_yes l _ (by omega)).mono ?_
        rintro e w2 ⟨rfl, hb2⟩
        have hB2 : Below w.heap.size w w2 := by first | exact chain0 hB hb2 | exact chain1 hB hb2 | exact chain2 hB hb2 | exact chain3 hB hb2
        clear hB
        have hB := hB2
        clear hB2
        go_wp2_with fail
        refine (of_no a1 _ (by omega) h1).mono ?_
        rintro e w3 ⟨rfl, hb3⟩
        have hB2 : Below w.heap.size w w3 := by first | exact chain0 hB hb3 | exact chain1 hB hb3 | exact chain2 hB hb3 | exact chain3 hB hb3
        clear hB
        have hB := hB2
        clear hB2
        go_wp2
        go_ret
        exact ⟨rfl, hB.alloc hB.size _⟩
    · go_enter Try.func8, Try.ntmps8
      go_wp2_with fail
      refine (awake_any _).mono ?_
      rintro e w1 ⟨rfl, hb1⟩
      have hB2 : Below w.heap.size w w1 := by first | exact chain0 hB hb1 | exact chain1 hB hb1 | exact chain2 hB hb1 | exact chain3 hB hb1
      clear hB
      have hB := hB2
      clear hB2
      go_wp2_with fail
      refine (of_no a0 _ (by omega) h0).mono ?_
      rintro e w2 ⟨rfl, hb2⟩
      have hB2 : Below w.heap.size w w2 := by first | exact chain0 hB hb2 | exact chain1 hB hb2 | exact chain2 hB hb2 | exact chain3 hB hb2
      clear hB
      have hB := hB2
      clear hB2
      rcases txt_cases a1 with ⟨m, rfl⟩ | h1
      · rw [size_txS] at hz1
        go_wp2_with fail
        refine (of_yes m _ (by omega)).mono ?_
        rintro e w3 ⟨rfl, hb3⟩
        have hB2 : Below w.heap.size w w3 := by first | exact chain0 hB hb3 | exact chain1 hB hb3 | exact chain2 hB hb3 | exact chain3 hB hb3
        clear hB
        have hB := hB2
        clear hB2
        go_wp2
        go_ret
        exact ⟨rfl, hB.alloc hB.size _⟩
      · have _t := h1
        go_wp2_with fail
        refine (of_no a1 _ (by omega) h1).mono ?_
        rintro e w3 ⟨rfl, hb3⟩
        have hB2 : Below w.heap.size w w3 := by first | exact chain0 hB hb3 | exact chain1 hB hb3 | exact chain2 hB hb3 | exact chain3 hB hb3
        clear hB
        have hB := hB2
        clear hB2
        go_wp2
        go_ret
        exact ⟨rfl, hB.alloc hB.size _⟩
end Go.Proofs.Ytafcphnafgfgkaa

