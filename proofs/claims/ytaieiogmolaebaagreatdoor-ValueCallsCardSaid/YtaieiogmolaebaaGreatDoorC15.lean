/- value.known at 'substring' of three. Plain law: a word stands in a row of words, blanks between them, just if it is one of them. -/
import Derived.Test.YtaieiogmolaebaaGreatDoorC00
import Derived.Test.YtaieiogmolaebaaGreatDoorC01
import Derived.Lib.IndexMore
namespace Go.Proofs.YtaieiogmolaebaaGreatDoor
open Go.RowKit
def cntS0 : ByteArray := ⟨#[32, 116, 114, 117, 101, 32, 102, 97, 108, 115, 101, 32]⟩
def cntS1 : ByteArray := ⟨#[32, 99, 111, 117, 110, 116, 32, 101, 109, 112, 116, 121, 32, 101, 120, 105, 115, 116, 115, 32, 110, 111, 116, 32, 98, 111, 111, 108, 101, 97, 110, 32, 115, 116, 114, 105, 110, 103, 32, 115, 116, 114, 105, 110, 103, 45, 108, 101, 110, 103, 116, 104, 32, 110, 111, 114, 109, 97, 108, 105, 122, 101, 45, 115, 112, 97, 99, 101, 32, 117, 112, 112, 101, 114, 45, 99, 97, 115, 101, 32, 108, 111, 119, 101, 114, 45, 99, 97, 115, 101, 32, 110, 117, 109, 98, 101, 114, 32, 115, 117, 109, 32, 109, 105, 110, 32, 109, 97, 120, 32, 97, 98, 115, 32, 100, 105, 115, 116, 105, 110, 99, 116, 45, 118, 97, 108, 117, 101, 115, 32, 114, 101, 118, 101, 114, 115, 101, 32]⟩
def cntS2 : ByteArray := ⟨#[32, 99, 111, 110, 116, 97, 105, 110, 115, 32, 115, 116, 97, 114, 116, 115, 45, 119, 105, 116, 104, 32, 101, 110, 100, 115, 45, 119, 105, 116, 104, 32]⟩
def cntS3 : ByteArray := ⟨#[32, 115, 116, 114, 105, 110, 103, 45, 106, 111, 105, 110, 32]⟩
def cntS4 : ByteArray := ⟨#[32, 115, 117, 98, 115, 116, 114, 105, 110, 103, 32]⟩
def cntS5 : ByteArray := ⟨#[32, 99, 111, 110, 99, 97, 116, 32]⟩
def cntC : List Value := [.int .i64 0, .int .i64 0, .string cntS0, .int .i64 1, .int .i64 1, .string cntS1, .int .i64 2, .int .i64 2, .string cntS2, .int .i64 1, .int .i64 2, .string cntS3, .int .i64 2, .int .i64 3, .string cntS4, .int .i64 2, .int .i64 60, .string cntS5]
def Counts (w : World) : Prop := ∀ (j : Nat) v, cntC[j]? = some v → w.cell? ⟨0, j, none⟩ = some v
theorem Counts.keep {w w' : World} (h : Counts w) (hb : Below w.heap.size w w') : Counts w' := fun j v hv => cell_keep hb (h j v hv)
theorem contains_is (s sub : ByteArray) (b : Bool) (m : Int) (w : World) (hb : Lib.contains s.data.toList sub.data.toList = b) (hs : s.size < 4294967281) (hm : w.cell? ⟨3, 0, none⟩ = some (.int .i64 m)) :
  Calls Tryz.prog 30 #[.string s, .string sub] w fun e w' => e = .returned (.bool b) ∧ Below w.heap.size w w' := by
 refine (Tryz.strings_Contains s sub m w hs hm).mono ?_
 rintro e w' ⟨rfl, rfl⟩
 exact ⟨by rw [hb], Below.refl _ _⟩
set_option maxRecDepth 100000 in
set_option maxHeartbeats 4000000 in
theorem known_sub (m : Int) (w : World) (hm : w.cell? ⟨3, 0, none⟩ = some (.int .i64 m)) (hc : Counts w) :
  Calls Tryz.prog 22 #[.string ⟨#[115, 117, 98, 115, 116, 114, 105, 110, 103]⟩, .int .i64 3] w fun e w' => e = .returned (.bool true) ∧ Below w.heap.size w w' := by
 have Hm := hide hm
 have Hc := hide hc
 clear hm hc
 go_enter Tryz.func22, Tryz.ntmps22
 go_wp2_with fail
 refine (contains_is _ _ false m _ ?b0 ?s0 Hm.out).mono ?_
 case b0 => kernel_rfl
 case s0 => decide
 rintro e w1 ⟨rfl, hb1⟩
 have c0 := Hc.out.keep hb1 0 _ rfl
 have c1 := Hc.out.keep hb1 1 _ rfl
 have c2 := Hc.out.keep hb1 2 _ rfl
 have c3 := Hc.out.keep hb1 3 _ rfl
 have c4 := Hc.out.keep hb1 4 _ rfl
 have c5 := Hc.out.keep hb1 5 _ rfl
 have c6 := Hc.out.keep hb1 6 _ rfl
 have c7 := Hc.out.keep hb1 7 _ rfl
 have c8 := Hc.out.keep hb1 8 _ rfl
 have c9 := Hc.out.keep hb1 9 _ rfl
 have c10 := Hc.out.keep hb1 10 _ rfl
 have c11 := Hc.out.keep hb1 11 _ rfl
 have c12 := Hc.out.keep hb1 12 _ rfl
 have c13 := Hc.out.keep hb1 13 _ rfl
 have c14 := Hc.out.keep hb1 14 _ rfl
 have c15 := Hc.out.keep hb1 15 _ rfl
 have c16 := Hc.out.keep hb1 16 _ rfl
 have c17 := Hc.out.keep hb1 17 _ rfl
 simp only [cntS0, cntS1, cntS2, cntS3, cntS4, cntS5] at c2 c5 c8 c11 c14 c17
 have ix0 : ∀ W : World, (Instr.index 96 (.agg #[.int .i64 0, .int .i64 0, .string ⟨#[32, 116, 114, 117, 101, 32, 102, 97, 108, 115, 101, 32]⟩, .int .i64 1, .int .i64 1, .string ⟨#[32, 99, 111, 117, 110, 116, 32, 101, 109, 112, 116, 121, 32, 101, 120, 105, 115, 116, 115, 32, 110, 111, 116, 32, 98, 111, 111, 108, 101, 97, 110, 32, 115, 116, 114, 105, 110, 103, 32, 115, 116, 114, 105, 110, 103, 45, 108, 101, 110, 103, 116, 104, 32, 110, 111, 114, 109, 97, 108, 105, 122, 101, 45, 115, 112, 97, 99, 101, 32, 117, 112, 112, 101, 114, 45, 99, 97, 115, 101, 32, 108, 111, 119, 101, 114, 45, 99, 97, 115, 101, 32, 110, 117, 109, 98, 101, 114, 32, 115, 117, 109, 32, 109, 105, 110, 32, 109, 97, 120, 32, 97, 98, 115, 32, 100, 105, 115, 116, 105, 110, 99, 116, 45, 118, 97, 108, 117, 101, 115, 32, 114, 101, 118, 101, 114, 115, 101, 32]⟩, .int .i64 2, .int .i64 2, .string ⟨#[32, 99, 111, 110, 116, 97, 105, 110, 115, 32, 115, 116, 97, 114, 116, 115, 45, 119, 105, 116, 104, 32, 101, 110, 100, 115, 45, 119, 105, 116, 104, 32]⟩, .int .i64 1, .int .i64 2, .string ⟨#[32, 115, 116, 114, 105, 110, 103, 45, 106, 111, 105, 110, 32]⟩, .int .i64 2, .int .i64 3, .string ⟨#[32, 115, 117, 98, 115, 116, 114, 105, 110, 103, 32]⟩, .int .i64 2, .int .i64 60, .string ⟨#[32, 99, 111, 110, 99, 97, 116, 32]⟩]) (.int .i64 0)).run Tryz.prog W = .ok (.agg #[.int .i64 0, .int .i64 0, .string ⟨#[32, 116, 114, 117, 101, 32, 102, 97, 108, 115, 101, 32]⟩]) W := fun _ => by kernel_rfl
 have ix1 : ∀ W : World, (Instr.index 96 (.agg #[.int .i64 0, .int .i64 0, .string ⟨#[32, 116, 114, 117, 101, 32, 102, 97, 108, 115, 101, 32]⟩, .int .i64 1, .int .i64 1, .string ⟨#[32, 99, 111, 117, 110, 116, 32, 101, 109, 112, 116, 121, 32, 101, 120, 105, 115, 116, 115, 32, 110, 111, 116, 32, 98, 111, 111, 108, 101, 97, 110, 32, 115, 116, 114, 105, 110, 103, 32, 115, 116, 114, 105, 110, 103, 45, 108, 101, 110, 103, 116, 104, 32, 110, 111, 114, 109, 97, 108, 105, 122, 101, 45, 115, 112, 97, 99, 101, 32, 117, 112, 112, 101, 114, 45, 99, 97, 115, 101, 32, 108, 111, 119, 101, 114, 45, 99, 97, 115, 101, 32, 110, 117, 109, 98, 101, 114, 32, 115, 117, 109, 32, 109, 105, 110, 32, 109, 97, 120, 32, 97, 98, 115, 32, 100, 105, 115, 116, 105, 110, 99, 116, 45, 118, 97, 108, 117, 101, 115, 32, 114, 101, 118, 101, 114, 115, 101, 32]⟩, .int .i64 2, .int .i64 2, .string ⟨#[32, 99, 111, 110, 116, 97, 105, 110, 115, 32, 115, 116, 97, 114, 116, 115, 45, 119, 105, 116, 104, 32, 101, 110, 100, 115, 45, 119, 105, 116, 104, 32]⟩, .int .i64 1, .int .i64 2, .string ⟨#[32, 115, 116, 114, 105, 110, 103, 45, 106, 111, 105, 110, 32]⟩, .int .i64 2, .int .i64 3, .string ⟨#[32, 115, 117, 98, 115, 116, 114, 105, 110, 103, 32]⟩, .int .i64 2, .int .i64 60, .string ⟨#[32, 99, 111, 110, 99, 97, 116, 32]⟩]) (.int .i64 1)).run Tryz.prog W = .ok (.agg #[.int .i64 1, .int .i64 1, .string ⟨#[32, 99, 111, 117, 110, 116, 32, 101, 109, 112, 116, 121, 32, 101, 120, 105, 115, 116, 115, 32, 110, 111, 116, 32, 98, 111, 111, 108, 101, 97, 110, 32, 115, 116, 114, 105, 110, 103, 32, 115, 116, 114, 105, 110, 103, 45, 108, 101, 110, 103, 116, 104, 32, 110, 111, 114, 109, 97, 108, 105, 122, 101, 45, 115, 112, 97, 99, 101, 32, 117, 112, 112, 101, 114, 45, 99, 97, 115, 101, 32, 108, 111, 119, 101, 114, 45, 99, 97, 115, 101, 32, 110, 117, 109, 98, 101, 114, 32, 115, 117, 109, 32, 109, 105, 110, 32, 109, 97, 120, 32, 97, 98, 115, 32, 100, 105, 115, 116, 105, 110, 99, 116, 45, 118, 97, 108, 117, 101, 115, 32, 114, 101, 118, 101, 114, 115, 101, 32]⟩]) W := fun _ => by kernel_rfl
 have ix2 : ∀ W : World, (Instr.index 96 (.agg #[.int .i64 0, .int .i64 0, .string ⟨#[32, 116, 114, 117, 101, 32, 102, 97, 108, 115, 101, 32]⟩, .int .i64 1, .int .i64 1, .string ⟨#[32, 99, 111, 117, 110, 116, 32, 101, 109, 112, 116, 121, 32, 101, 120, 105, 115, 116, 115, 32, 110, 111, 116, 32, 98, 111, 111, 108, 101, 97, 110, 32, 115, 116, 114, 105, 110, 103, 32, 115, 116, 114, 105, 110, 103, 45, 108, 101, 110, 103, 116, 104, 32, 110, 111, 114, 109, 97, 108, 105, 122, 101, 45, 115, 112, 97, 99, 101, 32, 117, 112, 112, 101, 114, 45, 99, 97, 115, 101, 32, 108, 111, 119, 101, 114, 45, 99, 97, 115, 101, 32, 110, 117, 109, 98, 101, 114, 32, 115, 117, 109, 32, 109, 105, 110, 32, 109, 97, 120, 32, 97, 98, 115, 32, 100, 105, 115, 116, 105, 110, 99, 116, 45, 118, 97, 108, 117, 101, 115, 32, 114, 101, 118, 101, 114, 115, 101, 32]⟩, .int .i64 2, .int .i64 2, .string ⟨#[32, 99, 111, 110, 116, 97, 105, 110, 115, 32, 115, 116, 97, 114, 116, 115, 45, 119, 105, 116, 104, 32, 101, 110, 100, 115, 45, 119, 105, 116, 104, 32]⟩, .int .i64 1, .int .i64 2, .string ⟨#[32, 115, 116, 114, 105, 110, 103, 45, 106, 111, 105, 110, 32]⟩, .int .i64 2, .int .i64 3, .string ⟨#[32, 115, 117, 98, 115, 116, 114, 105, 110, 103, 32]⟩, .int .i64 2, .int .i64 60, .string ⟨#[32, 99, 111, 110, 99, 97, 116, 32]⟩]) (.int .i64 2)).run Tryz.prog W = .ok (.agg #[.int .i64 2, .int .i64 2, .string ⟨#[32, 99, 111, 110, 116, 97, 105, 110, 115, 32, 115, 116, 97, 114, 116, 115, 45, 119, 105, 116, 104, 32, 101, 110, 100, 115, 45, 119, 105, 116, 104, 32]⟩]) W := fun _ => by kernel_rfl
 have ix3 : ∀ W : World, (Instr.index 96 (.agg #[.int .i64 0, .int .i64 0, .string ⟨#[32, 116, 114, 117, 101, 32, 102, 97, 108, 115, 101, 32]⟩, .int .i64 1, .int .i64 1, .string ⟨#[32, 99, 111, 117, 110, 116, 32, 101, 109, 112, 116, 121, 32, 101, 120, 105, 115, 116, 115, 32, 110, 111, 116, 32, 98, 111, 111, 108, 101, 97, 110, 32, 115, 116, 114, 105, 110, 103, 32, 115, 116, 114, 105, 110, 103, 45, 108, 101, 110, 103, 116, 104, 32, 110, 111, 114, 109, 97, 108, 105, 122, 101, 45, 115, 112, 97, 99, 101, 32, 117, 112, 112, 101, 114, 45, 99, 97, 115, 101, 32, 108, 111, 119, 101, 114, 45, 99, 97, 115, 101, 32, 110, 117, 109, 98, 101, 114, 32, 115, 117, 109, 32, 109, 105, 110, 32, 109, 97, 120, 32, 97, 98, 115, 32, 100, 105, 115, 116, 105, 110, 99, 116, 45, 118, 97, 108, 117, 101, 115, 32, 114, 101, 118, 101, 114, 115, 101, 32]⟩, .int .i64 2, .int .i64 2, .string ⟨#[32, 99, 111, 110, 116, 97, 105, 110, 115, 32, 115, 116, 97, 114, 116, 115, 45, 119, 105, 116, 104, 32, 101, 110, 100, 115, 45, 119, 105, 116, 104, 32]⟩, .int .i64 1, .int .i64 2, .string ⟨#[32, 115, 116, 114, 105, 110, 103, 45, 106, 111, 105, 110, 32]⟩, .int .i64 2, .int .i64 3, .string ⟨#[32, 115, 117, 98, 115, 116, 114, 105, 110, 103, 32]⟩, .int .i64 2, .int .i64 60, .string ⟨#[32, 99, 111, 110, 99, 97, 116, 32]⟩]) (.int .i64 3)).run Tryz.prog W = .ok (.agg #[.int .i64 1, .int .i64 2, .string ⟨#[32, 115, 116, 114, 105, 110, 103, 45, 106, 111, 105, 110, 32]⟩]) W := fun _ => by kernel_rfl
 have ix4 : ∀ W : World, (Instr.index 96 (.agg #[.int .i64 0, .int .i64 0, .string ⟨#[32, 116, 114, 117, 101, 32, 102, 97, 108, 115, 101, 32]⟩, .int .i64 1, .int .i64 1, .string ⟨#[32, 99, 111, 117, 110, 116, 32, 101, 109, 112, 116, 121, 32, 101, 120, 105, 115, 116, 115, 32, 110, 111, 116, 32, 98, 111, 111, 108, 101, 97, 110, 32, 115, 116, 114, 105, 110, 103, 32, 115, 116, 114, 105, 110, 103, 45, 108, 101, 110, 103, 116, 104, 32, 110, 111, 114, 109, 97, 108, 105, 122, 101, 45, 115, 112, 97, 99, 101, 32, 117, 112, 112, 101, 114, 45, 99, 97, 115, 101, 32, 108, 111, 119, 101, 114, 45, 99, 97, 115, 101, 32, 110, 117, 109, 98, 101, 114, 32, 115, 117, 109, 32, 109, 105, 110, 32, 109, 97, 120, 32, 97, 98, 115, 32, 100, 105, 115, 116, 105, 110, 99, 116, 45, 118, 97, 108, 117, 101, 115, 32, 114, 101, 118, 101, 114, 115, 101, 32]⟩, .int .i64 2, .int .i64 2, .string ⟨#[32, 99, 111, 110, 116, 97, 105, 110, 115, 32, 115, 116, 97, 114, 116, 115, 45, 119, 105, 116, 104, 32, 101, 110, 100, 115, 45, 119, 105, 116, 104, 32]⟩, .int .i64 1, .int .i64 2, .string ⟨#[32, 115, 116, 114, 105, 110, 103, 45, 106, 111, 105, 110, 32]⟩, .int .i64 2, .int .i64 3, .string ⟨#[32, 115, 117, 98, 115, 116, 114, 105, 110, 103, 32]⟩, .int .i64 2, .int .i64 60, .string ⟨#[32, 99, 111, 110, 99, 97, 116, 32]⟩]) (.int .i64 4)).run Tryz.prog W = .ok (.agg #[.int .i64 2, .int .i64 3, .string ⟨#[32, 115, 117, 98, 115, 116, 114, 105, 110, 103, 32]⟩]) W := fun _ => by kernel_rfl
 go_wp2_with fail
 refine wp_loop_rounds 7 ?_
 rw [rounds_succ]
 go_wp2_with fail
 refine (contains_is _ _ false m _ ?b1 ?s1 (cell_keep ((Below.refl _ _).alloc (by exact Nat.le_refl _) _) (cell_keep hb1 Hm.out))).mono ?_
 case b1 => kernel_rfl
 case s1 => decide
 rintro e w2 ⟨rfl, hc2⟩
 have hb2 := chain1 hb1 hc2
 clear hc2
 go_wp2_with fail
 rw [rounds_succ]
 go_wp2_with fail
 refine (contains_is _ _ false m _ ?b2 ?s2 (cell_keep ((Below.refl _ _).alloc (by exact Nat.le_refl _) _) (cell_keep hb2 Hm.out))).mono ?_
 case b2 => kernel_rfl
 case s2 => decide
 rintro e w3 ⟨rfl, hc3⟩
 have hb3 := chain1 hb2 hc3
 clear hc3
 go_wp2_with fail
 rw [rounds_succ]
 go_wp2_with fail
 refine (contains_is _ _ false m _ ?b3 ?s3 (cell_keep ((Below.refl _ _).alloc (by exact Nat.le_refl _) _) (cell_keep hb3 Hm.out))).mono ?_
 case b3 => kernel_rfl
 case s3 => decide
 rintro e w4 ⟨rfl, hc4⟩
 have hb4 := chain1 hb3 hc4
 clear hc4
 go_wp2_with fail
 rw [rounds_succ]
 go_wp2_with fail
 refine (contains_is _ _ false m _ ?b4 ?s4 (cell_keep ((Below.refl _ _).alloc (by exact Nat.le_refl _) _) (cell_keep hb4 Hm.out))).mono ?_
 case b4 => kernel_rfl
 case s4 => decide
 rintro e w5 ⟨rfl, hc5⟩
 have hb5 := chain1 hb4 hc5
 clear hc5
 go_wp2_with fail
 rw [rounds_succ]
 go_wp2_with fail
 refine (contains_is _ _ true m _ ?b5 ?s5 (cell_keep ((Below.refl _ _).alloc (by exact Nat.le_refl _) _) (cell_keep hb5 Hm.out))).mono ?_
 case b5 => kernel_rfl
 case s5 => decide
 rintro e w6 ⟨rfl, hc6⟩
 have hb6 := chain1 hb5 hc6
 have hk := Blk.keep (Blk.new _ _ _) hc6
 have d0 := hk.cell 0
 have d1 := hk.cell 1
 clear hc6
 simp only [List.getElem?_toArray, List.getElem?_cons_zero, List.getElem?_cons_succ] at d0 d1
 clear hk ix0 ix1 ix2 ix3 ix4 c0 c1 c2 c3 c4 c5 c6 c7 c8 c9 c10 c11 c12 c13 c14 c15 c16 c17
 go_wp2
 go_ret
 exact ⟨rfl, hb6⟩
end Go.Proofs.YtaieiogmolaebaaGreatDoor
namespace Go.Proofs.YtaieiogmolaebaaGreatDoor
theorem contains_occ (s sub : List UInt8) : Lib.contains s sub = true ↔ ∃ i, i ≤ s.length ∧ Lib.occAt s sub i = true := by
 unfold Lib.contains
 rw [decide_eq_true_eq]
 rcases Lib.index_spec s sub with ⟨h1, h2⟩ | ⟨i, h1, h2, h3, _⟩
 ·rw [h1]
  constructor
  ·intro h; omega
  ·rintro ⟨i, hi, ho⟩; rw [h2 i hi] at ho; cases ho
 ·rw [h1]
  exact ⟨fun _ => ⟨i, h2, h3⟩, fun _ => by omega⟩
def spW : List (List UInt8) → List UInt8
 | [] => []
 | w :: r => w ++ 32 :: spW r
def noB (w : List UInt8) : Prop := ∀ c ∈ w, c ≠ 32
theorem word_at : ∀ (x w t : List UInt8), noB x → noB w → (List.isPrefixOf (x ++ [32]) (w ++ 32 :: t) = true ↔ x = w)
 | [], [], t, _, _ => by simp [List.isPrefixOf]
 | [], c :: w, t, _, hw => by
  have := hw c (by simp)
  simp [List.isPrefixOf]
  exact fun e => this e.symm
 | c :: x, [], t, hx, _ => by
  have := hx c (by simp)
  simp [List.isPrefixOf, this]
 | c :: x, d :: w, t, hx, hw => by
  have ih := word_at x w t (fun e he => hx e (by simp [he])) (fun e he => hw e (by simp [he]))
  simp only [List.cons_append, List.isPrefixOf, Bool.and_eq_true, beq_iff_eq, List.cons.injEq, ih]
theorem occ_words (x : List UInt8) (hx : noB x) : ∀ (W : List (List UInt8)), (∀ w ∈ W, noB w) → ((∃ i, List.isPrefixOf (32 :: x ++ [32]) ((32 :: spW W).drop i) = true) ↔ x ∈ W)
 | [], _ => by
  constructor
  ·rintro ⟨i, h⟩
   exfalso
   match i with
   | 0 =>
    simp only [spW, List.drop_zero, List.cons_append, List.isPrefixOf, Bool.and_eq_true] at h
    have := h.2
    cases x <;> simp at this
   | 1 => simp [spW] at h
   | i + 2 => simp [spW] at h
  ·intro h; cases h
 | w :: r, hW => by
  have ih := occ_words x hx r (fun v hv => hW v (by simp [hv]))
  have hw := hW w (by simp)
  have hd : ∀ j, (32 :: spW (w :: r)).drop (w.length + 1 + j) = (32 :: spW r).drop j := by
   intro j
   show (32 :: (w ++ 32 :: spW r)).drop (w.length + 1 + j) = _
   rw [show w.length + 1 + j = (w.length + j) + 1 by omega, List.drop_succ_cons, List.drop_append, List.drop_eq_nil_of_le (by omega), List.nil_append]
   congr 1; omega
  constructor
  ·rintro ⟨i, h⟩
   rcases Nat.lt_or_ge w.length i with hi | hi
   ·obtain ⟨j, rfl⟩ : ∃ j, i = w.length + 1 + j := ⟨i - (w.length + 1), by omega⟩
    rw [hd] at h
    exact List.mem_cons_of_mem _ (ih.1 ⟨j, h⟩)
   ·match i, hi, h with
    | 0, _, h =>
     simp only [spW, List.drop_zero, List.cons_append, List.isPrefixOf, Bool.and_eq_true, beq_self_eq_true, true_and] at h
     rw [(word_at x w (spW r) hx hw).1 h]
     simp
    | i + 1, hi, h =>
     exfalso
     simp only [spW, List.drop_succ_cons] at h
     rw [List.drop_append_of_le_length (by omega)] at h
     obtain ⟨c, t, hct⟩ : ∃ c t, w.drop i = c :: t := by
      cases hc : w.drop i with
      | nil => have := congrArg List.length hc; simp at this; omega
      | cons c t => exact ⟨c, t, rfl⟩
     rw [hct] at h
     have hcm : c ∈ w := List.mem_of_mem_drop (by rw [hct]; simp)
     simp only [List.cons_append, List.isPrefixOf, Bool.and_eq_true, beq_iff_eq] at h
     exact hw c hcm h.1.symm
  ·intro h
   rcases List.mem_cons.1 h with rfl | h
   ·refine ⟨0, ?_⟩
    simp only [spW, List.drop_zero, List.cons_append, List.isPrefixOf, Bool.and_eq_true, beq_self_eq_true, true_and]
    exact (word_at x x (spW r) hx hx).2 rfl
   ·obtain ⟨j, hj⟩ := ih.2 h
    exact ⟨w.length + 1 + j, by rw [hd]; exact hj⟩
theorem contains_words (x : List UInt8) (hx : noB x) (W : List (List UInt8)) (hW : ∀ w ∈ W, noB w) : Lib.contains (32 :: spW W) (32 :: x ++ [32]) = decide (x ∈ W) := by
 rw [Bool.eq_iff_iff, contains_occ, decide_eq_true_eq, ← occ_words x hx W hW]
 constructor
 ·rintro ⟨i, _, h⟩
  exact ⟨i, by simpa [Lib.occAt] using h⟩
 ·rintro ⟨i, h⟩
  refine ⟨i, ?_, by simpa [Lib.occAt] using h⟩
  rcases Nat.lt_or_ge (32 :: spW W).length i with hi | hi
  ·rw [List.drop_eq_nil_of_le (by omega)] at h
   simp at h
  ·exact hi
theorem contains_blank (x : List UInt8) : Lib.contains x [32] = true ↔ ¬ noB x := by
 rw [contains_occ]
 unfold noB
 constructor
 ·rintro ⟨i, hi, h⟩ hn
  have h : List.isPrefixOf [32] (x.drop i) = true := by simpa [Lib.occAt] using h
  cases hd : x.drop i with
  | nil => rw [hd] at h; simp [List.isPrefixOf] at h
  | cons c t =>
   rw [hd] at h
   simp [List.isPrefixOf] at h
   exact hn c (List.mem_of_mem_drop (by rw [hd]; simp)) h.symm
 ·intro hn
  have : ∃ c ∈ x, c = 32 := by
   apply Classical.byContradiction
   intro h
   exact hn fun c hc e => h ⟨c, hc, e⟩
  obtain ⟨c, hc, rfl⟩ := this
  obtain ⟨a, b, rfl⟩ := List.append_of_mem hc
  refine ⟨a.length, by simp, ?_⟩
  simp [Lib.occAt, List.isPrefixOf]
end Go.Proofs.YtaieiogmolaebaaGreatDoor
