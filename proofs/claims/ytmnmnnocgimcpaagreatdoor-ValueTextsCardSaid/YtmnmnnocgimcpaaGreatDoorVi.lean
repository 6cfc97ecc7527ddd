/- cmp.Compare at int64 and at one text; value.order at what awake asks. -/
import Derived.Test.YtmnmnnocgimcpaaGreatDoorVd
namespace Go.Proofs.YtmnmnnocgimcpaaGreatDoor
open Go.RowKit
def cmpInt (x y : Int) : Int := if x < y then -1 else if y < x then 1 else 0
set_option maxRecDepth 100000 in
set_option maxHeartbeats 400000 in
theorem nan_any (x : Int) (w : World) : Calls Tryz.prog 170 #[.int .i64 x] w fun e w' => e = .returned (.bool false) ∧ w = w' := by
  have hx : (x != x) = false := by simp
  go_enter Tryz.func170, Tryz.ntmps170
  go_wp2
  go_ret
  exact ⟨rfl, rfl⟩
set_option maxRecDepth 100000 in
set_option maxHeartbeats 400000 in
theorem nanS_any (x : ByteArray) (w : World) : Calls Tryz.prog 171 #[.string x] w fun e w' => e = .returned (.bool false) ∧ w = w' := by
  go_enter Tryz.func171, Tryz.ntmps171
  go_wp2
  go_ret
  exact ⟨rfl, rfl⟩
set_option maxRecDepth 100000 in
set_option maxHeartbeats 400000 in
theorem cmpCompare_any (x y : Int) (w : World) : Calls Tryz.prog 119 #[.int .i64 x, .int .i64 y] w fun e w' => e = .returned (.int .i64 (cmpInt x y)) ∧ w = w' := by
  have hfin : Hid (cmpInt x y = if x < y then -1 else if y < x then 1 else 0) := by show cmpInt x y = _; rfl
  go_enter Tryz.func119, Tryz.ntmps119
  go_wp2_with (go_at_call 170; refine (nan_any _ _).mono ?_; rintro e w' ⟨rfl, rfl⟩)
  · go_ret
    exact ⟨ret_int (by rw [hfin.out, if_pos (by assumption)]), rfl⟩
  · go_ret
    have h1 : y ≤ x := by assumption
    have h2 : y < x := by assumption
    exact ⟨ret_int (by rw [hfin.out, if_neg (by omega), if_pos h2]), rfl⟩
  · go_ret
    have h1 : y ≤ x := by assumption
    have h2 : x ≤ y := by assumption
    exact ⟨ret_int (by rw [hfin.out, if_neg (by omega), if_neg (by omega)]), rfl⟩
set_option maxRecDepth 100000 in
set_option maxHeartbeats 400000 in
theorem cmpS_two (w : World) : Calls Tryz.prog 120 #[.string ⟨#[50]⟩, .string ⟨#[50]⟩] w fun e w' => e = .returned (.int .i64 0) ∧ w = w' := by
  go_enter Tryz.func120, Tryz.ntmps120
  go_wp2_with (go_at_call 171; refine (nanS_any _ _).mono ?_; rintro e w' ⟨rfl, rfl⟩)
  go_ret
  exact ⟨rfl, rfl⟩
theorem two_parse : Lib.parseIntB 64 (ByteArray.mk #[50]).data.toList = .ok (2 : Nat) := by decide
theorem two_dec : (ByteArray.mk #[50]) = ⟨(Lib.decDigits 2).toArray⟩ := by kernel_rfl
theorem x_parse : Lib.parseIntB 64 (ByteArray.mk #[120]).data.toList = Lib.NumEnd.syntax := by decide
theorem one_le {a : UInt8} : (ByteArray.mk #[a]).size ≤ 100 := by simp [ByteArray.size]
set_option maxRecDepth 100000 in
set_option maxHeartbeats 1000000 in
theorem order_one_two (n : Int) (w : World) : Calls Tryz.prog 63 #[.agg #[.int .u8 2, .int .i64 n, .string ⟨#[]⟩, .int .i64 0], .agg #[.int .u8 3, .int .i64 0, .string ⟨#[50]⟩, .int .i64 0]] w fun e w' => e = .returned (.tuple #[.int .i64 (cmpInt n 2), .int .i64 0]) ∧ Below w.heap.size w w' := by
  have hk1 := ((Below.refl w.heap.size w).alloc (Nat.le_refl _) (.cells #[.int .u8 2, .int .i64 n, .string ⟨#[]⟩, .int .i64 0] 37)).alloc (by simp) (.cells #[.int .u8 3, .int .i64 0, .string ⟨#[50]⟩, .int .i64 0] 37)
  have hx : Blk ((w.alloc (.cells #[.int .u8 2, .int .i64 n, .string ⟨#[]⟩, .int .i64 0] 37)).alloc (.cells #[.int .u8 3, .int .i64 0, .string ⟨#[50]⟩, .int .i64 0] 37)) (w.heap.size + 1) 37 #[.int .u8 3, .int .i64 0, .string ⟨#[50]⟩, .int .i64 0] := by
    have := Blk.new (w.alloc (.cells #[.int .u8 2, .int .i64 n, .string ⟨#[]⟩, .int .i64 0] 37)) 37 #[.int .u8 3, .int .i64 0, .string ⟨#[50]⟩, .int .i64 0]
    simpa using this
  go_enter Tryz.func63, Tryz.ntmps63
  go_wp2_with fail
  refine (number_int n 0 ⟨#[]⟩ _).mono ?_
  rintro e w1 ⟨rfl, hb1⟩
  have hx1 := hx.keep hb1
  have c0 := hx1.cell 0
  have c1 := hx1.cell 1
  have c2 := hx1.cell 2
  have c3 := hx1.cell 3
  simp only [List.getElem?_toArray, List.getElem?_cons_zero, List.getElem?_cons_succ] at c0 c1 c2 c3
  have hB1 := chain0 hk1 hb1
  clear hk1 hb1 hx hx1
  go_wp2_with fail
  refine (number_yes 3 0 0 ⟨#[50]⟩ 2 _ (by decide) (by decide) two_parse two_dec one_le).mono ?_
  rintro e w2 ⟨rfl, hb2⟩
  have hB2 := chain0 hB1 hb2
  clear hb2 c0 c1 c2 c3
  go_wp2_with fail
  refine (cmpCompare_any _ _ _).mono ?_
  rintro e w3 ⟨rfl, rfl⟩
  go_wp2
  go_ret2
  exact ⟨rfl, hB2⟩
set_option maxRecDepth 100000 in
set_option maxHeartbeats 1000000 in
theorem order_node_two (d : Int) (w : World) : Calls Tryz.prog 63 #[.agg #[.int .u8 1, .int .i64 0, .string ⟨#[50]⟩, .int .i64 d], .agg #[.int .u8 3, .int .i64 0, .string ⟨#[50]⟩, .int .i64 0]] w fun e w' => e = .returned (.tuple #[.int .i64 0, .int .i64 0]) ∧ Below w.heap.size w w' := by
  have hk1 := ((Below.refl w.heap.size w).alloc (Nat.le_refl _) (.cells #[.int .u8 1, .int .i64 0, .string ⟨#[50]⟩, .int .i64 d] 37)).alloc (by simp) (.cells #[.int .u8 3, .int .i64 0, .string ⟨#[50]⟩, .int .i64 0] 37)
  go_enter Tryz.func63, Tryz.ntmps63
  go_wp2_with fail
  refine (cmpS_two _).mono ?_
  rintro e w1 ⟨rfl, rfl⟩
  go_wp2
  go_ret2
  exact ⟨rfl, hk1⟩
set_option maxRecDepth 100000 in
set_option maxHeartbeats 1000000 in
theorem order_one_x (n : Int) (ev : Value) (w : World) (hv : w.cell? ⟨5, 0, none⟩ = some ev) (hev : ev = .nilIface ∨ ∃ te pe, ev = .iface te pe) :
    Calls Tryz.prog 63 #[.agg #[.int .u8 2, .int .i64 n, .string ⟨#[]⟩, .int .i64 0], .agg #[.int .u8 3, .int .i64 0, .string ⟨#[120]⟩, .int .i64 0]] w fun e w' => e = .returned (.tuple #[.int .i64 0, .int .i64 250]) ∧ Below w.heap.size w w' := by
  have hk1 := ((Below.refl w.heap.size w).alloc (Nat.le_refl _) (.cells #[.int .u8 2, .int .i64 n, .string ⟨#[]⟩, .int .i64 0] 37)).alloc (by simp) (.cells #[.int .u8 3, .int .i64 0, .string ⟨#[120]⟩, .int .i64 0] 37)
  have hx : Blk ((w.alloc (.cells #[.int .u8 2, .int .i64 n, .string ⟨#[]⟩, .int .i64 0] 37)).alloc (.cells #[.int .u8 3, .int .i64 0, .string ⟨#[120]⟩, .int .i64 0] 37)) (w.heap.size + 1) 37 #[.int .u8 3, .int .i64 0, .string ⟨#[120]⟩, .int .i64 0] := by
    have := Blk.new (w.alloc (.cells #[.int .u8 2, .int .i64 n, .string ⟨#[]⟩, .int .i64 0] 37)) 37 #[.int .u8 3, .int .i64 0, .string ⟨#[120]⟩, .int .i64 0]
    simpa using this
  have Hv := hide hv
  clear hv
  go_enter Tryz.func63, Tryz.ntmps63
  go_wp2_with fail
  refine (number_int n 0 ⟨#[]⟩ _).mono ?_
  rintro e w1 ⟨rfl, hb1⟩
  have hx1 := hx.keep hb1
  have c0 := hx1.cell 0
  have c1 := hx1.cell 1
  have c2 := hx1.cell 2
  have c3 := hx1.cell 3
  simp only [List.getElem?_toArray, List.getElem?_cons_zero, List.getElem?_cons_succ] at c0 c1 c2 c3
  have hB1 := chain0 hk1 hb1
  clear hk1 hb1 hx hx1
  go_wp2_with fail
  refine (number_no 3 0 0 ⟨#[120]⟩ ev _ (by decide) x_parse one_le (cell_keep hB1 Hv.out) hev).mono ?_
  rintro e w2 ⟨rfl, hb2⟩
  have hB2 := chain0 hB1 hb2
  clear hb2 c0 c1 c2 c3
  go_wp2
  go_ret2
  exact ⟨rfl, hB2⟩
end Go.Proofs.YtmnmnnocgimcpaaGreatDoor
