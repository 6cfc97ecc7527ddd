/- BitsLong: the walk. -/
import Derived.Test.YtafcphnafgfgkaaBl0
namespace Go.Proofs.Ytafcphnafgfgkaa
open Go.RowKit Bm
def ones (n : Nat) : List Bool := List.replicate n true
theorem ones_len (n : Nat) : (ones n).length = n := by simp [ones]
theorem ones_tx (n : Nat) : (⟨(List.replicate n (49 : UInt8)).toArray⟩ : ByteArray) = txS (ones n) := by
  simp [txS, tx, ones]
def oneS (n : Nat) : ByteArray := ⟨(List.replicate n (49 : UInt8)).toArray⟩
def onePk (n : Nat) : ByteArray := pk (ones n)
theorem of_ones (n : Nat) (w : World) (hn : n ≤ 1048576) : Calls Try.prog 12 #[.string (oneS n)] w fun e w' => e = .returned (.tuple #[.agg #[.string (onePk n), .int .i64 n], .bool true]) ∧ Below w.heap.size w w' := by
  have := of_ok (ones n) w (by rw [ones_len]; exact hn)
  rw [← ones_tx, bitsV, ones_len] at this
  exact this
theorem of_many (n : Nat) (w : World) (hn : 1048576 < n) (h2 : n ≤ 9223372036854775807) : Calls Try.prog 12 #[.string (oneS n)] w fun e w' => e = .returned (.tuple #[.agg #[.string ⟨#[]⟩, .int .i64 0], .bool false]) ∧ Below w.heap.size w w' :=
  of_long _ w (by rw [oneS, ones_tx, size_txS, ones_len]; exact hn) (by rw [oneS, ones_tx, size_txS, ones_len]; exact h2)
theorem len_ones (n : Nat) (w : World) : Calls Try.prog 13 #[.agg #[.string (onePk n), .int .i64 n]] w fun e w' => e = .returned (.int .i64 n) ∧ Below w.heap.size w w' := by
  have := len_any (ones n) w
  rw [bitsV, ones_len] at this
  exact this
theorem len_ones1 (n : Nat) (w : World) : Calls Try.prog 13 #[.agg #[.string (onePk (n + 1)), .int .i64 (n + 1)]] w fun e w' => e = .returned (.int .i64 (n + 1)) ∧ Below w.heap.size w w' := by
  have := len_ones (n + 1) w
  rw [Int.natCast_add] at this
  exact this
theorem len_nil (w : World) : Calls Try.prog 13 #[.agg #[.string ⟨#[]⟩, .int .i64 0]] w fun e w' => e = .returned (.int .i64 0) ∧ Below w.heap.size w w' := len_any [] w
theorem and_ones (n : Nat) (w : World) (hn : n < 1048576) : Calls Try.prog 14 #[.agg #[.string (onePk n), .int .i64 n], .agg #[.string ⟨#[128]⟩, .int .i64 1]] w fun e w' => e = .returned (.agg #[.string (onePk (n + 1)), .int .i64 (n + 1)]) ∧ Below w.heap.size w w' := by
  have := and_ok (ones n) [true] w (by rw [ones_len]; simp; omega)
  rw [show ones n ++ [true] = ones (n + 1) from by simp [ones, List.replicate_succ']] at this
  unfold bitsV at this
  rw [ones_len, ones_len] at this
  exact this
theorem and_full (n : Nat) (h1 : n ≤ 1048576) (h2 : 1048576 ≤ n) (w : World) : Calls Try.prog 14 #[.agg #[.string (onePk n), .int .i64 n], .agg #[.string ⟨#[128]⟩, .int .i64 1]] w fun e w' => e = .returned (.agg #[.string ⟨#[]⟩, .int .i64 0]) ∧ Below w.heap.size w w' := by
  have := and_long (ones n) [true] w (by rw [ones_len]; omega) (by simp) (by rw [ones_len]; simp; omega)
  unfold bitsV at this
  rw [ones_len] at this
  exact this
theorem fill_step (n k : Nat) (h : k < n) : (List.replicate k (49 : UInt8) ++ zeros (n - k)).set k 49 = List.replicate (k + 1) 49 ++ zeros (n - (k + 1)) := by
  rw [show n - k = (n - (k + 1)) + 1 from by omega]
  simp only [zeros, List.replicate_succ]
  rw [List.set_append_right _ _ (by simp)]
  simp only [List.length_replicate, Nat.sub_self, List.set_cons_zero]
  rw [← List.replicate_succ, List.replicate_succ', List.append_assoc]
  rfl
set_option maxRecDepth 100000 in
set_option maxHeartbeats 1000000 in
theorem bitsLong_walk (a0 : Int) (_w0 : (Lit.int .i64 a0).wf = true) (w : World) :
    Calls Try.prog 3 #[.int .i64 a0] w fun e w' => e = .returned (.bool true) ∧ Below w.heap.size w w' := by
  have hB := Below.refl w.heap.size w
  go_enter Try.func3, Try.ntmps3
  go_wp2_with fail
  refine (awake_any _).mono ?_
  rintro e w1 ⟨rfl, hb1⟩
  have hB2 : Below w.heap.size w w1 := by first | exact chain0 hB hb1 | exact chain1 hB hb1 | exact chain2 hB hb1 | exact chain3 hB hb1
  clear hB
  have hB := hB2
  clear hB2
  go_wp2_with fail
  refine (pick_any a0 3 _ (by omega) (by omega)).mono ?_
  rintro e w1' ⟨p, hp, rfl, rfl⟩
  obtain ⟨n, hn⟩ : ∃ n : Nat, n = 1048575 + p := ⟨_, rfl⟩
  have hnp : (1048575 : Int) + p = n := by omega
  have hmk := run_mk n (by omega)
  have hnlo : 1048575 ≤ n := by omega
  have hnhi : n ≤ 1048577 := by omega
  clear hn hp
  go_wp2_with fail
  go_loopw [5] (fun x wr => ∃ k : Nat, k ≤ n ∧ x = .int .i64 k ∧ Bk wr w1.heap.size (List.replicate k 49 ++ zeros (n - k)) ∧ Below w.heap.size w wr) (fun x _ => n - (intOf x).toNat)
  case atStart => exact ⟨0, Nat.zero_le _, rfl, Blk.new _ _ _, hB.alloc hB.size _⟩
  case round =>
    clear hB hmk
    obtain ⟨k, hk, rfl, hbk, hB⟩ := hrel
    have hsz1 : w.heap.size ≤ w1.heap.size := hb1.size
    by_cases hlt : k < n
    · have hc := hbk.cell k (by simp [zeros]; omega)
      have hf := hbk.blk.frozen k
      have hst := hide (fill_step n k hlt)
      have hset := hbk.set_ k 49
      rw [hst.out] at hset
      clear hbk
      go_wp2
      refine ⟨⟨k + 1, by omega, by go_num, hset, hB.setCell hsz1 _⟩, by simp [intOf]; omega⟩
    · have hk' : k = n := by omega
      subst hk'
      rw [Nat.sub_self] at hbk
      have hz0 : zeros 0 = [] := rfl
      rw [hz0, List.append_nil] at hbk
      have hstr := hbk.str k k (by simp)
      rw [show (⟨(List.replicate k (49 : UInt8)).toArray⟩ : ByteArray) = oneS k from rfl] at hstr
      have h3 : k = 1048575 ∨ k = 1048576 ∨ k = 1048577 := by omega
      clear hz0 hbk hlt hk hnp hnlo hnhi
      rcases h3 with rfl | rfl | rfl
      · go_wp2_with fail
        refine (of_ones 1048575 _ (by omega)).mono ?_
        rintro e w2 ⟨rfl, hb2⟩
        have hB2 : Below w.heap.size w w2 := by first | exact chain0 hB hb2 | exact chain1 hB hb2 | exact chain2 hB hb2 | exact chain3 hB hb2
        clear hB
        have hB := hB2
        clear hB2
        go_wp2_with fail
        refine (of_1 _).mono ?_
        rintro e w3 ⟨rfl, hb3⟩
        have hB2 : Below w.heap.size w w3 := by first | exact chain0 hB hb3 | exact chain1 hB hb3 | exact chain2 hB hb3 | exact chain3 hB hb3
        clear hB
        have hB := hB2
        clear hB2
        have x_A : Blk w3 w2.heap.size 26 #[.string (onePk 1048575), .int .i64 1048575] := (Blk.new w2 _ _).keep hb3
        have c_A0_1 := fun o0 => (x_A.alloc o0).cell 0
        have c_A1_1 := fun o0 => (x_A.alloc o0).cell 1
        simp only [List.getElem?_toArray, List.getElem?_cons_zero, List.getElem?_cons_succ] at c_A0_1 c_A1_1
        go_wp2_with fail
        refine (and_ones 1048575 _ (by omega)).mono ?_
        rintro e w4 ⟨rfl, hb4⟩
        have hB2 : Below w.heap.size w w4 := by first | exact chain0 hB hb4 | exact chain1 hB hb4 | exact chain2 hB hb4 | exact chain3 hB hb4
        clear hB
        have hB := hB2
        clear hB2
        have y_A : Blk w4 w2.heap.size 26 #[.string (onePk 1048575), .int .i64 1048575] := by first | exact x_A.keep hb4 | exact (x_A.alloc _).keep hb4 | exact ((x_A.alloc _).alloc _).keep hb4 | exact (((x_A.alloc _).alloc _).alloc _).keep hb4
        clear x_A
        have x_A := y_A
        clear y_A
        have c_A0_1 := fun o0 => (x_A.alloc o0).cell 0
        have c_A1_1 := fun o0 => (x_A.alloc o0).cell 1
        simp only [List.getElem?_toArray, List.getElem?_cons_zero, List.getElem?_cons_succ] at c_A0_1 c_A1_1
        go_wp2_with fail
        refine (len_ones 1048575 _).mono ?_
        rintro e w5 ⟨rfl, hb5⟩
        have hB2 : Below w.heap.size w w5 := by first | exact chain0 hB hb5 | exact chain1 hB hb5 | exact chain2 hB hb5 | exact chain3 hB hb5
        clear hB
        have hB := hB2
        clear hB2
        have y_A : Blk w5 w2.heap.size 26 #[.string (onePk 1048575), .int .i64 1048575] := by first | exact x_A.keep hb5 | exact (x_A.alloc _).keep hb5 | exact ((x_A.alloc _).alloc _).keep hb5 | exact (((x_A.alloc _).alloc _).alloc _).keep hb5
        clear x_A
        have x_A := y_A
        clear y_A
        have x_C : Blk w5 w4.heap.size 26 #[.string (onePk 1048576), .int .i64 1048576] := (Blk.new w4 _ _).keep hb5
        have c_A0_0 := x_A.cell 0
        have c_A1_0 := x_A.cell 1
        have c_C0_0 := x_C.cell 0
        have c_C1_0 := x_C.cell 1
        simp only [List.getElem?_toArray, List.getElem?_cons_zero, List.getElem?_cons_succ] at c_A0_0 c_A1_0 c_C0_0 c_C1_0
        go_wp2_with fail
        refine (len_ones 1048576 _).mono ?_
        rintro e w6 ⟨rfl, hb6⟩
        have hB2 : Below w.heap.size w w6 := by first | exact chain0 hB hb6 | exact chain1 hB hb6 | exact chain2 hB hb6 | exact chain3 hB hb6
        clear hB
        have hB := hB2
        clear hB2
        have y_A : Blk w6 w2.heap.size 26 #[.string (onePk 1048575), .int .i64 1048575] := by first | exact x_A.keep hb6 | exact (x_A.alloc _).keep hb6 | exact ((x_A.alloc _).alloc _).keep hb6 | exact (((x_A.alloc _).alloc _).alloc _).keep hb6
        have y_C : Blk w6 w4.heap.size 26 #[.string (onePk 1048576), .int .i64 1048576] := by first | exact x_C.keep hb6 | exact (x_C.alloc _).keep hb6 | exact ((x_C.alloc _).alloc _).keep hb6 | exact (((x_C.alloc _).alloc _).alloc _).keep hb6
        clear x_A x_C
        have x_A := y_A
        have x_C := y_C
        clear y_A y_C
        go_wp2
        go_ret
        exact ⟨rfl, hB⟩
      · go_wp2_with fail
        refine (of_ones 1048576 _ (by omega)).mono ?_
        rintro e w2 ⟨rfl, hb2⟩
        have hB2 : Below w.heap.size w w2 := by first | exact chain0 hB hb2 | exact chain1 hB hb2 | exact chain2 hB hb2 | exact chain3 hB hb2
        clear hB
        have hB := hB2
        clear hB2
        go_wp2_with fail
        refine (of_1 _).mono ?_
        rintro e w3 ⟨rfl, hb3⟩
        have hB2 : Below w.heap.size w w3 := by first | exact chain0 hB hb3 | exact chain1 hB hb3 | exact chain2 hB hb3 | exact chain3 hB hb3
        clear hB
        have hB := hB2
        clear hB2
        have x_A : Blk w3 w2.heap.size 26 #[.string (onePk 1048576), .int .i64 1048576] := (Blk.new w2 _ _).keep hb3
        have c_A0_1 := fun o0 => (x_A.alloc o0).cell 0
        have c_A1_1 := fun o0 => (x_A.alloc o0).cell 1
        simp only [List.getElem?_toArray, List.getElem?_cons_zero, List.getElem?_cons_succ] at c_A0_1 c_A1_1
        go_wp2_with fail
        refine (and_full 1048576 (by omega) (by omega) _).mono ?_
        rintro e w4 ⟨rfl, hb4⟩
        have hB2 : Below w.heap.size w w4 := by first | exact chain0 hB hb4 | exact chain1 hB hb4 | exact chain2 hB hb4 | exact chain3 hB hb4
        clear hB
        have hB := hB2
        clear hB2
        have y_A : Blk w4 w2.heap.size 26 #[.string (onePk 1048576), .int .i64 1048576] := by first | exact x_A.keep hb4 | exact (x_A.alloc _).keep hb4 | exact ((x_A.alloc _).alloc _).keep hb4 | exact (((x_A.alloc _).alloc _).alloc _).keep hb4
        clear x_A
        have x_A := y_A
        clear y_A
        have c_A0_1 := fun o0 => (x_A.alloc o0).cell 0
        have c_A1_1 := fun o0 => (x_A.alloc o0).cell 1
        simp only [List.getElem?_toArray, List.getElem?_cons_zero, List.getElem?_cons_succ] at c_A0_1 c_A1_1
        go_wp2_with fail
        refine (len_ones 1048576 _).mono ?_
        rintro e w5 ⟨rfl, hb5⟩
        have hB2 : Below w.heap.size w w5 := by first | exact chain0 hB hb5 | exact chain1 hB hb5 | exact chain2 hB hb5 | exact chain3 hB hb5
        clear hB
        have hB := hB2
        clear hB2
        have y_A : Blk w5 w2.heap.size 26 #[.string (onePk 1048576), .int .i64 1048576] := by first | exact x_A.keep hb5 | exact (x_A.alloc _).keep hb5 | exact ((x_A.alloc _).alloc _).keep hb5 | exact (((x_A.alloc _).alloc _).alloc _).keep hb5
        clear x_A
        have x_A := y_A
        clear y_A
        have x_C : Blk w5 w4.heap.size 26 #[.string ⟨#[]⟩, .int .i64 0] := (Blk.new w4 _ _).keep hb5
        have c_A0_0 := x_A.cell 0
        have c_A1_0 := x_A.cell 1
        have c_C0_0 := x_C.cell 0
        have c_C1_0 := x_C.cell 1
        simp only [List.getElem?_toArray, List.getElem?_cons_zero, List.getElem?_cons_succ] at c_A0_0 c_A1_0 c_C0_0 c_C1_0
        go_wp2_with fail
        refine (len_nil _).mono ?_
        rintro e w6 ⟨rfl, hb6⟩
        have hB2 : Below w.heap.size w w6 := by first | exact chain0 hB hb6 | exact chain1 hB hb6 | exact chain2 hB hb6 | exact chain3 hB hb6
        clear hB
        have hB := hB2
        clear hB2
        have y_A : Blk w6 w2.heap.size 26 #[.string (onePk 1048576), .int .i64 1048576] := by first | exact x_A.keep hb6 | exact (x_A.alloc _).keep hb6 | exact ((x_A.alloc _).alloc _).keep hb6 | exact (((x_A.alloc _).alloc _).alloc _).keep hb6
        have y_C : Blk w6 w4.heap.size 26 #[.string ⟨#[]⟩, .int .i64 0] := by first | exact x_C.keep hb6 | exact (x_C.alloc _).keep hb6 | exact ((x_C.alloc _).alloc _).keep hb6 | exact (((x_C.alloc _).alloc _).alloc _).keep hb6
        clear x_A x_C
        have x_A := y_A
        have x_C := y_C
        clear y_A y_C
        go_wp2
        go_ret
        exact ⟨rfl, hB⟩
      · go_wp2_with fail
        refine (of_many 1048577 _ (by omega) (by omega)).mono ?_
        rintro e w2 ⟨rfl, hb2⟩
        have hB2 : Below w.heap.size w w2 := by first | exact chain0 hB hb2 | exact chain1 hB hb2 | exact chain2 hB hb2 | exact chain3 hB hb2
        clear hB
        have hB := hB2
        clear hB2
        go_wp2_with fail
        refine (of_1 _).mono ?_
        rintro e w3 ⟨rfl, hb3⟩
        have hB2 : Below w.heap.size w w3 := by first | exact chain0 hB hb3 | exact chain1 hB hb3 | exact chain2 hB hb3 | exact chain3 hB hb3
        clear hB
        have hB := hB2
        clear hB2
        have x_A : Blk w3 w2.heap.size 26 #[.string ⟨#[]⟩, .int .i64 0] := (Blk.new w2 _ _).keep hb3
        have c_A0_1 := fun o0 => (x_A.alloc o0).cell 0
        have c_A1_1 := fun o0 => (x_A.alloc o0).cell 1
        simp only [List.getElem?_toArray, List.getElem?_cons_zero, List.getElem?_cons_succ] at c_A0_1 c_A1_1
        go_wp2_with fail
        refine (len_nil _).mono ?_
        rintro e w4 ⟨rfl, hb4⟩
        have hB2 : Below w.heap.size w w4 := by first | exact chain0 hB hb4 | exact chain1 hB hb4 | exact chain2 hB hb4 | exact chain3 hB hb4
        clear hB
        have hB := hB2
        clear hB2
        have y_A : Blk w4 w2.heap.size 26 #[.string ⟨#[]⟩, .int .i64 0] := by first | exact x_A.keep hb4 | exact (x_A.alloc _).keep hb4 | exact ((x_A.alloc _).alloc _).keep hb4 | exact (((x_A.alloc _).alloc _).alloc _).keep hb4
        clear x_A
        have x_A := y_A
        clear y_A
        go_wp2
        go_ret
        exact ⟨rfl, hB⟩
end Go.Proofs.Ytafcphnafgfgkaa

