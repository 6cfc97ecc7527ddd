/- Texts of items; texts put together; value.substring at plain text. -/
import Derived.Test.YtmnmnnocgimcpaaGreatDoorWb
import Derived.Test.YtmnmnnocgimcpaaGreatDoorVj
import Derived.Test.YtmnmnnocgimcpaaGreatDoorVf
import Derived.Test.YtmnmnnocgimcpaaGreatDoorVn
namespace Go.Proofs.YtmnmnnocgimcpaaGreatDoor
open Go.RowKit
set_option maxRecDepth 100000 in
set_option maxHeartbeats 1000000 in
theorem text_str (n d : Int) (s : ByteArray) (w : World) : Calls Tryz.prog 70 #[.agg #[.int .u8 3, .int .i64 n, .string s, .int .i64 d]] w fun e w' => e = .returned (.string s) ∧ Below w.heap.size w w' := by
  go_enter Tryz.func70, Tryz.ntmps70
  go_wp2
  go_ret
  exact ⟨rfl, (Below.refl _ _).alloc (Nat.le_refl _) _⟩
set_option maxRecDepth 100000 in
set_option maxHeartbeats 1000000 in
theorem string_str (g c : Nat) (s : ByteArray) (w : World) (h : RdI w (some ⟨g, 0, none⟩) [⟨3, 0, s, 0⟩]) (ha : Ascii s) (hs : s.size ≤ 8) : Calls Tryz.prog 30 #[.slice (some ⟨g, 0, none⟩) 1 c] w fun e w' => e = .returned (.tuple #[.string s, .int .i64 0]) ∧ Below w.heap.size w w' := by
  have H := hide h
  have hg := good_one (.str s ha hs)
  clear h
  have i10 := ix_item0 g 1 c (by decide)
  go_enter Tryz.func30, Tryz.ntmps30
  go_wp2_with fail
  refine (right_one g c [⟨3, 0, s, 0⟩] w H.out hg (by simp) 1 rfl).mono ?_
  rintro e w1 ⟨rfl, hb1⟩
  obtain ⟨a_0, a_1, a_2, a_3⟩ := (H.out.keep hb1).z0 _ rfl
  go_wp2_with fail
  refine (text_str 0 0 s _).mono ?_
  rintro e w2 ⟨rfl, hb2⟩
  have hB2 := chain0 hb1 hb2
  clear hb2 a_0 a_1 a_2 a_3
  go_wp2
  go_ret2
  exact ⟨rfl, hB2⟩
set_option maxRecDepth 100000 in
set_option maxHeartbeats 1000000 in
theorem one_num (g c k : Nat) (a d n : Int) (t : ByteArray) (w : World) (h : RdI w (some ⟨g, 0, none⟩) [⟨k, a, t, d⟩]) (hn : IsNum k a t d n) : Calls Tryz.prog 76 #[.slice (some ⟨g, 0, none⟩) 1 c] w fun e w' => e = .returned (.tuple #[.int .i64 n, .int .i64 0]) ∧ Below w.heap.size w w' := by
  have H := hide h
  have Hn := hide hn
  clear h hn
  have i10 := ix_item0 g 1 c (by decide)
  obtain ⟨a_0, a_1, a_2, a_3⟩ := H.out.z0 _ rfl
  go_enter Tryz.func76, Tryz.ntmps76
  go_wp2_with fail
  refine (Hn.out _).mono ?_
  rintro e w1 ⟨rfl, hb1⟩
  clear a_0 a_1 a_2 a_3
  go_wp2
  go_ret2
  exact ⟨rfl, hb1⟩
theorem join_one (s : ByteArray) : Lib.join ([s].map (·.data.toList)) (ByteArray.mk #[]).data.toList = s.data.toList := by
  show List.intercalate [] [s.data.toList] = s.data.toList
  simp [List.intercalate]
theorem ix_str0 (g n c : Nat) (h : 0 < n) (W : World) : (Instr.indexAt 54 (.slice (some ⟨g, 0, none⟩) n c) (.int .i64 0)).run Tryz.prog W = .ok (.pointer (some ⟨g, 0, none⟩)) W := by
  have e : (Tryz.prog.info? 9).map (fun i => (i.zero, i.size, i.bytes)) = some (some (.string ⟨#[]⟩), 1, 16) := by kernel_rfl
  obtain ⟨j0, hj, _, hj1, _⟩ := info_parts e
  have := run_ix Tryz.underlying54 hj hj1 g 0 n c 0 0 rfl h W
  rwa [Nat.zero_mul, Nat.zero_add] at this
set_option maxRecDepth 100000 in
set_option maxHeartbeats 1000000 in
theorem joined_one (s : ByteArray) (w : World) (hs : s.size ≤ 65536) : Calls Tryz.prog 31 #[.string ⟨#[]⟩, .slice (some ⟨w.heap.size, 0, none⟩) 1 1] (w.alloc (.cells #[.string s] 9)) fun e w' =>
    ∃ g, e = .returned (.tuple #[.slice (some ⟨g, 0, none⟩) 1 1, .int .i64 0]) ∧ w.heap.size ≤ g ∧ RdI w' (some ⟨g, 0, none⟩) [⟨3, 0, s, 0⟩] ∧ Below w.heap.size w w' := by
  have i10 := ix_str0 w.heap.size 1 1 (by decide)
  have hk := Blk.new w 9 #[.string s]
  have a0 := hk.cell 0
  have n1 : ¬ (65536 : Int) < (s.size : Int) := by omega
  have Hk := hide hk
  have Hs := hide hs
  clear hk hs
  go_enter Tryz.func31, Tryz.ntmps31
  go_wp2_with fail
  refine wp_loop_rounds 3 ?_
  rw [rounds_succ]
  go_wp2_with fail
  rw [rounds_succ]
  go_wp2_with fail
  refine (Tryz.strings_Join w.heap.size 0 1 [s] ⟨#[]⟩ _ ?j1 ?j2 (by simp) (by simp) ?j3).mono ?_
  case j1 =>
    intro j x hx
    match j, hx with
    | 0, hx => simp at hx; subst hx; exact Hk.out.cell 0
    | j + 1, hx => simp at hx
  case j2 => simp
  case j3 =>
    have e : (Lib.join ([s].map (·.data.toList)) (ByteArray.mk #[]).data.toList).length = s.size := by
      rw [join_one s]; exact Array.length_toList
    have := Hs.out
    rw [e]; omega
  rintro e w1 ⟨rfl, hb1⟩
  have hj : (⟨(Lib.join ([s].map (·.data.toList)) (ByteArray.mk #[]).data.toList).toArray⟩ : ByteArray) = s := by rw [join_one s]
  rw [hj]
  have hB1 := chain1 (Below.refl w.heap.size w) hb1
  clear hb1 hj
  go_wp2_with fail
  refine (vstr_any s _).mono ?_
  rintro e w2 ⟨g, rfl, hg, hr, hb2⟩
  have hB2 := chain0 hB1 hb2
  have Hr := hide hr
  have Hg := hide (Nat.le_trans hB1.size hg)
  clear hb2 hg hr
  go_wp2
  go_ret2
  exact ⟨g, rfl, Hg.out, Hr.out, hB2⟩
end Go.Proofs.YtmnmnnocgimcpaaGreatDoor
