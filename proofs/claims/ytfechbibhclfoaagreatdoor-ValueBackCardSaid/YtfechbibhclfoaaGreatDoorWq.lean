/- sum, size (ValueBack). -/
import Derived.Test.YtfechbibhclfoaaGreatDoorVn
import Derived.Test.YtfechbibhclfoaaGreatDoorVf
import Derived.Test.YtfechbibhclfoaaGreatDoorWp
namespace Go.Proofs.YtfechbibhclfoaaGreatDoor
open Go.RowKit
set_option maxRecDepth 100000 in
set_option maxHeartbeats 4000000 in
theorem sum_ok (s : ByteArray) (a b v v1 : Int) (w : World) (hm1 : Made s 1 1 v1 0) (hm : Made s a b v 0) :
    Calls Tryz.prog 5 #[.string s, .int .i64 a, .int .i64 b] w fun e w' => e = .returned (.tuple #[.int .i64 v, .bool true]) ∧ Below w.heap.size w w' := by
  have Hm1 := hide hm1
  have Hm := hide hm
  clear hm1 hm
  go_enter Tryz.func5, Tryz.ntmps5
  go_wp2_with fail
  refine (lwhole_any a _).mono ?_
  rintro e w1 ⟨rfl, hb1⟩
  go_wp2_with fail
  refine (lrow_any _ _ _ _).mono ?_
  rintro e wx ⟨rfl, rfl⟩
  go_wp2_with fail
  refine (lwhole_any b _).mono ?_
  rintro e w2 ⟨rfl, hb2⟩
  have hB2 := chain1 hb1 hb2
  have R2 := hide ((RdI.new w1 32 [⟨2, a, ⟨#[]⟩, 0⟩]).keep hb2)
  clear hb1 hb2
  go_wp2_with fail
  refine (lrow_any _ _ _ _).mono ?_
  rintro e wx ⟨rfl, rfl⟩
  go_wp2_with fail
  refine (arith_ok s w1.heap.size w2.heap.size 1 1 2 2 a b 0 0 a b v v1 ⟨#[]⟩ ⟨#[]⟩ _ (R2.out.alloc _) (RdI.new w2 32 [⟨2, b, ⟨#[]⟩, 0⟩]) (.int a) (.int b) (isNum_int a) (isNum_int b) Hm1.out Hm.out).mono ?_
  rintro e w3 ⟨g, rfl, hg, hr, hb3⟩
  have hB3 := chain1 hB2 hb3
  obtain ⟨a_0, a_1, a_2, a_3⟩ := hr.z 0 _ rfl
  simp only [Nat.zero_mul, Nat.one_mul, Nat.zero_add, Nat.reduceAdd] at a_0 a_1 a_2 a_3
  have i10 := ix_item0 g 1 1 (by decide)
  clear hb3 hr hg hB2 R2
  go_wp2
  go_ret2
  exact ⟨rfl, hB3⟩
set_option maxRecDepth 100000 in
set_option maxHeartbeats 4000000 in
theorem sum_no (s : ByteArray) (a b v v1 r : Int) (w : World) (hm1 : Made s 1 1 v1 0) (hm : Made s a b v r) (hr : (r != 0) = true) :
    Calls Tryz.prog 5 #[.string s, .int .i64 a, .int .i64 b] w fun e w' => e = .returned (.tuple #[.int .i64 0, .bool false]) ∧ Below w.heap.size w w' := by
  have Hm1 := hide hm1
  have Hm := hide hm
  clear hm1 hm
  go_enter Tryz.func5, Tryz.ntmps5
  go_wp2_with fail
  refine (lwhole_any a _).mono ?_
  rintro e w1 ⟨rfl, hb1⟩
  go_wp2_with fail
  refine (lrow_any _ _ _ _).mono ?_
  rintro e wx ⟨rfl, rfl⟩
  go_wp2_with fail
  refine (lwhole_any b _).mono ?_
  rintro e w2 ⟨rfl, hb2⟩
  have hB2 := chain1 hb1 hb2
  have R2 := hide ((RdI.new w1 32 [⟨2, a, ⟨#[]⟩, 0⟩]).keep hb2)
  clear hb1 hb2
  go_wp2_with fail
  refine (lrow_any _ _ _ _).mono ?_
  rintro e wx ⟨rfl, rfl⟩
  go_wp2_with fail
  refine (arith_no s w1.heap.size w2.heap.size 1 1 2 2 a b 0 0 a b v v1 r ⟨#[]⟩ ⟨#[]⟩ _ (R2.out.alloc _) (RdI.new w2 32 [⟨2, b, ⟨#[]⟩, 0⟩]) (.int a) (.int b) (isNum_int a) (isNum_int b) Hm1.out Hm.out hr).mono ?_
  rintro e w3 ⟨rfl, hb3⟩
  have hB3 := chain1 hB2 hb3
  clear hb3 hB2 R2
  go_wp2
  go_ret2
  exact ⟨rfl, hB3⟩
theorem sum_fit (s : ByteArray) (a b n v1 : Int) (w : World) (hm1 : Made s 1 1 v1 0) (hm : Made s a b (mkV (fit n) n) (erV (fit n))) :
    Calls Tryz.prog 5 #[.string s, .int .i64 a, .int .i64 b] w fun e w' => e = .returned (.tuple #[.int .i64 (mkV (fit n) n), .bool (fit n)]) ∧ Below w.heap.size w w' := by
  rcases Bool.eq_false_or_eq_true (fit n) with hf | hf
  · rw [hf, erV_yes rfl] at hm
    rw [hf]
    exact sum_ok s a b _ v1 w hm1 hm
  · rw [hf, erV_no rfl] at hm
    rw [hf]
    rw [mkV_no rfl] at hm ⊢
    exact sum_no s a b _ v1 251 w hm1 hm (by decide)
set_option maxRecDepth 100000 in
set_option maxHeartbeats 400000 in
theorem lsize_any (a : Int) (ha : R64 a) (w : World) : Calls Tryz.prog 9 #[.int .i64 a] w fun e w' => e = .returned (.int .u64 (a.natAbs : Int)) ∧ w = w' := by
  by_cases h : a < 0
  · have H := hide (size_neg a ha h)
    clear ha
    go_enter Tryz.func9, Tryz.ntmps9
    go_wp2
    go_ret
    exact ⟨ret_int H.out, rfl⟩
  · have H := hide (size_pos a ha h)
    clear ha
    go_enter Tryz.func9, Tryz.ntmps9
    go_wp2
    go_ret
    exact ⟨ret_int H.out, rfl⟩
end Go.Proofs.YtfechbibhclfoaaGreatDoor

