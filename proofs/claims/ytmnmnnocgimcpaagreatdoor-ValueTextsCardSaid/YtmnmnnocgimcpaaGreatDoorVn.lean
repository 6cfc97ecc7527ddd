/- value.Arith at two single items. -/
import Derived.Test.YtmnmnnocgimcpaaGreatDoorVj
import Derived.Test.YtmnmnnocgimcpaaGreatDoorVm
import Derived.Test.YtmnmnnocgimcpaaGreatDoorVf
namespace Go.Proofs.YtmnmnnocgimcpaaGreatDoor
open Go.RowKit
/-- an item's number is n -/
def IsNum (k : Nat) (a : Int) (t : ByteArray) (d : Int) (n : Int) : Prop := ∀ w, Calls Tryz.prog 121 #[.agg #[.int .u8 k, .int .i64 a, .string t, .int .i64 d]] w fun e w' => e = .returned (.tuple #[.int .i64 n, .int .i64 0]) ∧ Below w.heap.size w w'
theorem isNum_int (n : Int) : IsNum 2 n ⟨#[]⟩ 0 n := fun w => number_int n 0 ⟨#[]⟩ w
/-- a row of one item, in a block of its own -/
def One (w : World) (v : Value) (x : It) : Prop := ∃ g c, v = .slice (some ⟨g, 0, none⟩) 1 c ∧ RdI w (some ⟨g, 0, none⟩) [x]
theorem good_one {x : It} (h : Good x) : ∀ y ∈ [x], Good y := by
  intro y hy
  simp only [List.mem_cons, List.not_mem_nil, or_false] at hy
  subst hy; exact h
set_option maxRecDepth 100000 in
set_option maxHeartbeats 2000000 in
theorem arith_ok (s : ByteArray) (g1 g2 c1 c2 k1 k2 : Nat) (a1 a2 d1 d2 x y v v1 : Int) (t1 t2 : ByteArray) (w : World) (h1 : RdI w (some ⟨g1, 0, none⟩) [⟨k1, a1, t1, d1⟩]) (h2 : RdI w (some ⟨g2, 0, none⟩) [⟨k2, a2, t2, d2⟩])
    (hg1 : Good ⟨k1, a1, t1, d1⟩) (hg2 : Good ⟨k2, a2, t2, d2⟩) (hnx : IsNum k1 a1 t1 d1 x) (hny : IsNum k2 a2 t2 d2 y) (hm1 : Made s 1 1 v1 0) (hm : Made s x y v 0) :
    Calls Tryz.prog 64 #[.string s, .slice (some ⟨g1, 0, none⟩) 1 c1, .slice (some ⟨g2, 0, none⟩) 1 c2] w fun e w' => ∃ g, e = .returned (.tuple #[.slice (some ⟨g, 0, none⟩) 1 1, .int .i64 0]) ∧ w.heap.size ≤ g ∧ RdI w' (some ⟨g, 0, none⟩) [⟨2, v, ⟨#[]⟩, 0⟩] ∧ Below w.heap.size w w' := by
  have H1 := hide h1
  have H2 := hide h2
  have Hm1 := hide hm1
  have Hm := hide hm
  have Hnx := hide hnx
  have Hny := hide hny
  clear h1 h2 hm1 hm hnx hny
  have i10 := ix_item0 g1 1 c1 (by decide)
  have i20 := ix_item0 g2 1 c2 (by decide)
  go_enter Tryz.func64, Tryz.ntmps64
  go_wp2_with fail
  refine (Hm1.out _).mono ?_
  rintro e w1 ⟨rfl, rfl⟩
  go_wp2_with fail
  refine (right_two g1 g2 c1 c2 [⟨k1, a1, t1, d1⟩] [⟨k2, a2, t2, d2⟩] w H1.out H2.out (good_one hg1) (good_one hg2) (by simp) (by simp) 1 1 rfl rfl).mono ?_
  rintro e w1 ⟨rfl, hb1⟩
  obtain ⟨a_0, a_1, a_2, a_3⟩ := (H1.out.keep hb1).z0 _ rfl
  go_wp2_with fail
  refine (Hnx.out _).mono ?_
  rintro e w2 ⟨rfl, hb2⟩
  have hB2 := chain0 hb1 hb2
  clear hb2 a_0 a_1 a_2 a_3
  obtain ⟨a_0, a_1, a_2, a_3⟩ := (H2.out.keep hB2).z0 _ rfl
  go_wp2_with fail
  refine (Hny.out _).mono ?_
  rintro e w3 ⟨rfl, hb3⟩
  have hB3 := chain0 hB2 hb3
  clear hb3 hB2 a_0 a_1 a_2 a_3
  go_wp2_with fail
  refine (Hm.out _).mono ?_
  rintro e w4 ⟨rfl, rfl⟩
  go_wp2_with fail
  refine (vwhole_any v _).mono ?_
  rintro e w5 ⟨g, rfl, hgs, hr5, hb5⟩
  have hB5 := chain0 hB3 hb5
  have Hr5 := hide hr5
  have Hgs := hide (Nat.le_trans hB3.size hgs)
  clear hb5 hgs hr5
  go_wp2
  go_ret2
  exact ⟨g, rfl, Hgs.out, Hr5.out, hB5⟩
set_option maxRecDepth 100000 in
set_option maxHeartbeats 2000000 in
theorem arith_no (s : ByteArray) (g1 g2 c1 c2 k1 k2 : Nat) (a1 a2 d1 d2 x y v v1 r : Int) (t1 t2 : ByteArray) (w : World) (h1 : RdI w (some ⟨g1, 0, none⟩) [⟨k1, a1, t1, d1⟩]) (h2 : RdI w (some ⟨g2, 0, none⟩) [⟨k2, a2, t2, d2⟩])
    (hg1 : Good ⟨k1, a1, t1, d1⟩) (hg2 : Good ⟨k2, a2, t2, d2⟩) (hnx : IsNum k1 a1 t1 d1 x) (hny : IsNum k2 a2 t2 d2 y) (hm1 : Made s 1 1 v1 0) (hm : Made s x y v r) (hr : (r != 0) = true) :
    Calls Tryz.prog 64 #[.string s, .slice (some ⟨g1, 0, none⟩) 1 c1, .slice (some ⟨g2, 0, none⟩) 1 c2] w fun e w' => e = .returned (.tuple #[.slice none 0 0, .int .i64 r]) ∧ Below w.heap.size w w' := by
  have H1 := hide h1
  have H2 := hide h2
  have Hm1 := hide hm1
  have Hm := hide hm
  have Hnx := hide hnx
  have Hny := hide hny
  clear h1 h2 hm1 hm hnx hny
  have i10 := ix_item0 g1 1 c1 (by decide)
  have i20 := ix_item0 g2 1 c2 (by decide)
  go_enter Tryz.func64, Tryz.ntmps64
  go_wp2_with fail
  refine (Hm1.out _).mono ?_
  rintro e w1 ⟨rfl, rfl⟩
  go_wp2_with fail
  refine (right_two g1 g2 c1 c2 [⟨k1, a1, t1, d1⟩] [⟨k2, a2, t2, d2⟩] w H1.out H2.out (good_one hg1) (good_one hg2) (by simp) (by simp) 1 1 rfl rfl).mono ?_
  rintro e w1 ⟨rfl, hb1⟩
  obtain ⟨a_0, a_1, a_2, a_3⟩ := (H1.out.keep hb1).z0 _ rfl
  go_wp2_with fail
  refine (Hnx.out _).mono ?_
  rintro e w2 ⟨rfl, hb2⟩
  have hB2 := chain0 hb1 hb2
  clear hb2 a_0 a_1 a_2 a_3
  obtain ⟨a_0, a_1, a_2, a_3⟩ := (H2.out.keep hB2).z0 _ rfl
  go_wp2_with fail
  refine (Hny.out _).mono ?_
  rintro e w3 ⟨rfl, hb3⟩
  have hB3 := chain0 hB2 hb3
  clear hb3 hB2 a_0 a_1 a_2 a_3
  go_wp2_with fail
  refine (Hm.out _).mono ?_
  rintro e w4 ⟨rfl, rfl⟩
  go_wp2
  go_ret2
  exact ⟨rfl, hB3⟩
end Go.Proofs.YtmnmnnocgimcpaaGreatDoor
