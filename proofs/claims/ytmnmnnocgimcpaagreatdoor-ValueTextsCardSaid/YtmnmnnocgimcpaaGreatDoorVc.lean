/- key.Whole at small numerals and at what is none. -/
import Derived.Test.YtmnmnnocgimcpaaGreatDoorSh
import Derived.Test.YtmnmnnocgimcpaaGreatDoorVb
import Derived.Lib.SmallJoins
namespace Go.Proofs.YtmnmnnocgimcpaaGreatDoor
open Go.RowKit
set_option maxRecDepth 100000 in
set_option maxHeartbeats 1000000 in
theorem whole_yes (s : ByteArray) (n : Nat) (w : World) (hn : n < 100) (hp : Lib.parseIntB 64 s.data.toList = .ok n) (hd : s = ⟨(Lib.decDigits n).toArray⟩) (hs : s.size ≤ 100) :
    Calls Tryz.prog 172 #[.string s] w fun e w' => e = .returned (.tuple #[.int .i64 n, .bool true]) ∧ Below w.heap.size w w' := by
  have Hp := hide hp
  have Hd := hide hd
  clear hp hd
  go_enter Tryz.func172, Tryz.ntmps172
  go_wp2_with fail
  refine (Tryz.strconv_ParseInt_10_at64_ok s (by omega) n Hp.out _).mono ?_
  rintro e w1 ⟨rfl, hw1⟩
  have hb1 : Below w.heap.size w w1 := by
    rcases hw1 with rfl | ⟨t, rfl⟩
    · exact Below.refl _ _
    · exact Go.Joins.below_bytesWorld _ _ _ _ (Nat.le_refl _)
  clear hw1
  go_wp2_with fail
  refine (Tryz.strconv_FormatInt_10_small n hn _).mono ?_
  rintro e w2 ⟨rfl, rfl⟩
  rw [← Hd.out]
  go_wp2
  go_ret2
  exact ⟨rfl, hb1⟩
set_option maxRecDepth 100000 in
set_option maxHeartbeats 1000000 in
theorem whole_no (s : ByteArray) (ev : Value) (w : World) (hp : Lib.parseIntB 64 s.data.toList = Lib.NumEnd.syntax) (hs : s.size ≤ 100) (hv : w.cell? ⟨5, 0, none⟩ = some ev) (hev : ev = .nilIface ∨ ∃ te pe, ev = .iface te pe) :
    Calls Tryz.prog 172 #[.string s] w fun e w' => e = .returned (.tuple #[.int .i64 0, .bool false]) ∧ Below w.heap.size w w' := by
  have Hp := hide hp
  clear hp
  go_enter Tryz.func172, Tryz.ntmps172
  go_wp2_with fail
  refine (Tryz.strconv_ParseInt_10_at64_syntax s (by omega) Hp.out ev _ hv hev).mono ?_
  rintro e w1 ⟨N, rfl, _, _, hb1⟩
  go_wp2
  go_ret2
  exact ⟨rfl, hb1⟩
end Go.Proofs.YtmnmnnocgimcpaaGreatDoor
