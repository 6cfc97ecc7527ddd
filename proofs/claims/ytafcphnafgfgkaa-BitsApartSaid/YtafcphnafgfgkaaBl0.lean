/- parchmentlaw02.awake: it returns true. -/
import Derived.Test.YtafcphnafgfgkaaBw8
import Derived.Test.YtafcphnafgfgkaaBr2
import Derived.Test.YtafcphnafgfgkaaBr1
namespace Go.Proofs.Ytafcphnafgfgkaa
open Go.RowKit Bm
theorem of_101 (w : World) : Calls Try.prog 12 #[.string ⟨#[49, 48, 49]⟩] w fun e w' => e = .returned (.tuple #[.agg #[.string ⟨#[160]⟩, .int .i64 3], .bool true]) ∧ Below w.heap.size w w' :=
  of_ok [true, false, true] w (by decide)
theorem of_1 (w : World) : Calls Try.prog 12 #[.string ⟨#[49]⟩] w fun e w' => e = .returned (.tuple #[.agg #[.string ⟨#[128]⟩, .int .i64 1], .bool true]) ∧ Below w.heap.size w w' :=
  of_ok [true] w (by decide)
theorem of_0 (w : World) : Calls Try.prog 12 #[.string ⟨#[48]⟩] w fun e w' => e = .returned (.tuple #[.agg #[.string ⟨#[0]⟩, .int .i64 1], .bool true]) ∧ Below w.heap.size w w' :=
  of_ok [false] w (by decide)
theorem and_101 (w : World) : Calls Try.prog 14 #[.agg #[.string ⟨#[160]⟩, .int .i64 3], .agg #[.string ⟨#[128]⟩, .int .i64 1]] w fun e w' => e = .returned (.agg #[.string ⟨#[176]⟩, .int .i64 4]) ∧ Below w.heap.size w w' :=
  and_ok [true, false, true] [true] w (by decide)
theorem pack_1011 (w : World) : Calls Try.prog 18 #[.agg #[.string ⟨#[176]⟩, .int .i64 4]] w fun e w' => ∃ g cap, e = .returned (.slice (some ⟨g, 0, none⟩) 1 cap) ∧ (g < w'.heap.size ∧ w'.cell? ⟨g, 0, none⟩ = some (.int .u8 176)) ∧ Below w.heap.size w w' := by
  refine (pack_any [true, false, true, true] w).mono ?_
  rintro e w' ⟨full, g, rfl, hrw, _, htk, hle, hb⟩
  have h1 : 1 ≤ full.length := hle
  refine ⟨g, full.length, rfl, ⟨hrw.lt, ?_⟩, hb⟩
  rw [hrw.cell 0 (by omega)]
  have h2 : full.take 1 = [176] := htk
  match full, h1, h2 with
  | x :: r, _, h2 =>
    simp only [List.take_succ_cons, List.take_zero, List.cons.injEq, and_true] at h2
    subst h2; rfl
theorem text_1011 (w : World) : Calls Try.prog 16 #[.agg #[.string ⟨#[176]⟩, .int .i64 4]] w fun e w' => e = .returned (.string ⟨#[49, 48, 49, 49]⟩) ∧ Below w.heap.size w w' :=
  text_any [true, false, true, true] w (by decide)
theorem len_1011 (w : World) : Calls Try.prog 13 #[.agg #[.string ⟨#[176]⟩, .int .i64 4]] w fun e w' => e = .returned (.int .i64 4) ∧ Below w.heap.size w w' :=
  len_any [true, false, true, true] w
set_option maxRecDepth 100000 in
set_option maxHeartbeats 1000000 in
theorem awake_any (w : World) : Calls Try.prog 10 #[] w fun e w' => e = .returned (.bool true) ∧ Below w.heap.size w w' := by
  have hB := Below.refl w.heap.size w
  go_enter Try.func10, Try.ntmps10
  go_wp2_with fail
  refine (of_101 _).mono ?_
  rintro e w1 ⟨rfl, hb1⟩
  have hB2 : Below w.heap.size w w1 := by first | exact chain0 hB hb1 | exact chain1 hB hb1 | exact chain2 hB hb1 | exact chain3 hB hb1
  clear hB
  have hB := hB2
  clear hB2
  go_wp2_with fail
  refine (of_1 _).mono ?_
  rintro e w2 ⟨rfl, hb2⟩
  have hB2 : Below w.heap.size w w2 := by first | exact chain0 hB hb2 | exact chain1 hB hb2 | exact chain2 hB hb2 | exact chain3 hB hb2
  clear hB
  have hB := hB2
  clear hB2
  have x_A : Blk w2 w1.heap.size 26 #[.string ⟨#[160]⟩, .int .i64 3] := (Blk.new w1 _ _).keep hb2
  have c_A0_1 := fun o0 => (x_A.alloc o0).cell 0
  have c_A1_1 := fun o0 => (x_A.alloc o0).cell 1
  simp only [List.getElem?_toArray, List.getElem?_cons_zero, List.getElem?_cons_succ] at c_A0_1 c_A1_1
  go_wp2_with fail
  refine (and_101 _).mono ?_
  rintro e w3 ⟨rfl, hb3⟩
  have hB2 : Below w.heap.size w w3 := by first | exact chain0 hB hb3 | exact chain1 hB hb3 | exact chain2 hB hb3 | exact chain3 hB hb3
  clear hB
  have hB := hB2
  clear hB2
  have y_A : Blk w3 w1.heap.size 26 #[.string ⟨#[160]⟩, .int .i64 3] := by first | exact x_A.keep hb3 | exact (x_A.alloc _).keep hb3 | exact ((x_A.alloc _).alloc _).keep hb3 | exact (((x_A.alloc _).alloc _).alloc _).keep hb3
  clear x_A
  have x_A := y_A
  clear y_A
  clear x_A
  go_wp2_with fail
  refine (pack_1011 _).mono ?_
  rintro e w4 ⟨g, cap, rfl, hp, hb4⟩
  have hB2 : Below w.heap.size w w4 := by first | exact chain0 hB hb4 | exact chain1 hB hb4 | exact chain2 hB hb4 | exact chain3 hB hb4
  clear hB
  have hB := hB2
  clear hB2
  have x_C : Blk w4 w3.heap.size 26 #[.string ⟨#[176]⟩, .int .i64 4] := (Blk.new w3 _ _).keep hb4
  have c_C0_0 := x_C.cell 0
  have c_C1_0 := x_C.cell 1
  simp only [List.getElem?_toArray, List.getElem?_cons_zero, List.getElem?_cons_succ] at c_C0_0 c_C1_0
  go_wp2_with fail
  refine (text_1011 _).mono ?_
  rintro e w5 ⟨rfl, hb5⟩
  have hB2 : Below w.heap.size w w5 := by first | exact chain0 hB hb5 | exact chain1 hB hb5 | exact chain2 hB hb5 | exact chain3 hB hb5
  clear hB
  have hB := hB2
  clear hB2
  have y_C : Blk w5 w3.heap.size 26 #[.string ⟨#[176]⟩, .int .i64 4] := by first | exact x_C.keep hb5 | exact (x_C.alloc _).keep hb5 | exact ((x_C.alloc _).alloc _).keep hb5 | exact (((x_C.alloc _).alloc _).alloc _).keep hb5
  clear x_C
  have x_C := y_C
  clear y_C
  have c_C0_0 := x_C.cell 0
  have c_C1_0 := x_C.cell 1
  simp only [List.getElem?_toArray, List.getElem?_cons_zero, List.getElem?_cons_succ] at c_C0_0 c_C1_0
  have p5 := cell_keep hb5 hp.2
  go_wp2_with fail
  refine (len_1011 _).mono ?_
  rintro e w6 ⟨rfl, hb6⟩
  have hB2 : Below w.heap.size w w6 := by first | exact chain0 hB hb6 | exact chain1 hB hb6 | exact chain2 hB hb6 | exact chain3 hB hb6
  clear hB
  have hB := hB2
  clear hB2
  have y_C : Blk w6 w3.heap.size 26 #[.string ⟨#[176]⟩, .int .i64 4] := by first | exact x_C.keep hb6 | exact (x_C.alloc _).keep hb6 | exact ((x_C.alloc _).alloc _).keep hb6 | exact (((x_C.alloc _).alloc _).alloc _).keep hb6
  clear x_C
  have x_C := y_C
  clear y_C
  have p6 := cell_keep hb6 p5
  go_wp2
  go_ret
  exact ⟨rfl, hB⟩
end Go.Proofs.Ytafcphnafgfgkaa

