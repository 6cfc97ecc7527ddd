/- value.number. -/
import Derived.Test.YtmnmnnocgimcpaaGreatDoorVc
namespace Go.Proofs.YtmnmnnocgimcpaaGreatDoor
open Go.RowKit
set_option maxRecDepth 100000 in
set_option maxHeartbeats 1000000 in
theorem number_int (n d : Int) (t : ByteArray) (w : World) :
    Calls Tryz.prog 121 #[.agg #[.int .u8 2, .int .i64 n, .string t, .int .i64 d]] w fun e w' => e = .returned (.tuple #[.int .i64 n, .int .i64 0]) ∧ Below w.heap.size w w' := by
  go_enter Tryz.func121, Tryz.ntmps121
  go_wp2
  go_ret2
  exact ⟨rfl, (Below.refl _ _).alloc (Nat.le_refl _) _⟩
set_option maxRecDepth 100000 in
set_option maxHeartbeats 1000000 in
theorem number_yes (k : Nat) (n d : Int) (s : ByteArray) (v : Nat) (w : World) (hk : ((k : Int) == 2) = false) (hv : v < 100) (hp : Lib.parseIntB 64 s.data.toList = .ok v) (hd : s = ⟨(Lib.decDigits v).toArray⟩) (hs : s.size ≤ 100) :
    Calls Tryz.prog 121 #[.agg #[.int .u8 k, .int .i64 n, .string s, .int .i64 d]] w fun e w' => e = .returned (.tuple #[.int .i64 v, .int .i64 0]) ∧ Below w.heap.size w w' := by
  have hB := Below.refl w.heap.size w
  have Hp := hide hp
  have Hd := hide hd
  clear hp hd
  have hk1 := (Below.refl w.heap.size w).alloc (Nat.le_refl _) (.cells #[.int .u8 k, .int .i64 n, .string s, .int .i64 d] 37)
  go_enter Tryz.func121, Tryz.ntmps121
  go_wp2_with fail
  refine (whole_yes s v _ hv Hp.out Hd.out hs).mono ?_
  rintro e w1 ⟨rfl, hb1⟩
  have hB1 := chain0 hk1 hb1
  clear hb1 hk1
  go_wp2
  go_ret2
  exact ⟨rfl, hB1⟩
set_option maxRecDepth 100000 in
set_option maxHeartbeats 1000000 in
theorem number_no (k : Nat) (n d : Int) (s : ByteArray) (ev : Value) (w : World) (hk : ((k : Int) == 2) = false) (hp : Lib.parseIntB 64 s.data.toList = Lib.NumEnd.syntax) (hs : s.size ≤ 100) (hv : w.cell? ⟨5, 0, none⟩ = some ev) (hev : ev = .nilIface ∨ ∃ te pe, ev = .iface te pe) :
    Calls Tryz.prog 121 #[.agg #[.int .u8 k, .int .i64 n, .string s, .int .i64 d]] w fun e w' => e = .returned (.tuple #[.int .i64 0, .int .i64 250]) ∧ Below w.heap.size w w' := by
  have Hp := hide hp
  clear hp
  have hk1 := (Below.refl w.heap.size w).alloc (Nat.le_refl _) (.cells #[.int .u8 k, .int .i64 n, .string s, .int .i64 d] 37)
  have hv1 := cell_keep hk1 hv
  have Hv1 := hide hv1
  clear hv hv1
  go_enter Tryz.func121, Tryz.ntmps121
  go_wp2_with fail
  refine (whole_no s ev _ Hp.out hs Hv1.out hev).mono ?_
  rintro e w1 ⟨rfl, hb1⟩
  have hB1 := chain0 hk1 hb1
  clear hb1 hk1
  go_wp2
  go_ret2
  exact ⟨rfl, hB1⟩
end Go.Proofs.YtmnmnnocgimcpaaGreatDoor
