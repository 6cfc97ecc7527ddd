/- One item, alone. -/
import Derived.Test.YtmnmnnocgimcpaaGreatDoorVa
namespace Go.Proofs.YtmnmnnocgimcpaaGreatDoor
open Go.RowKit
set_option maxRecDepth 100000 in
set_option maxHeartbeats 1000000 in
theorem vwhole_any (n : Int) (w : World) : Calls Tryz.prog 32 #[.int .i64 n] w fun e w' => ∃ g, e = .returned (.slice (some ⟨g, 0, none⟩) 1 1) ∧ w.heap.size ≤ g ∧ RdI w' (some ⟨g, 0, none⟩) [⟨2, n, ⟨#[]⟩, 0⟩] ∧ Below w.heap.size w w' := by
  have hk := (Below.refl w.heap.size w).alloc (Nat.le_refl _) (.cells #[.int .u8 2, .int .i64 n, .string ⟨#[]⟩, .int .i64 0] 37)
  have hr : RdI (w.alloc (.cells #[.int .u8 2, .int .i64 n, .string ⟨#[]⟩, .int .i64 0] 37)) (some ⟨w.heap.size, 0, none⟩) [⟨2, n, ⟨#[]⟩, 0⟩] := RdI.new w 37 [⟨2, n, ⟨#[]⟩, 0⟩]
  go_enter Tryz.func32, Tryz.ntmps32
  go_wp2
  go_ret
  exact ⟨w.heap.size, rfl, Nat.le_refl _, hr, hk⟩
set_option maxRecDepth 100000 in
set_option maxHeartbeats 1000000 in
theorem vstr_any (s : ByteArray) (w : World) : Calls Tryz.prog 77 #[.string s] w fun e w' => ∃ g, e = .returned (.slice (some ⟨g, 0, none⟩) 1 1) ∧ w.heap.size ≤ g ∧ RdI w' (some ⟨g, 0, none⟩) [⟨3, 0, s, 0⟩] ∧ Below w.heap.size w w' := by
  have hk := (Below.refl w.heap.size w).alloc (Nat.le_refl _) (.cells #[.int .u8 3, .int .i64 0, .string s, .int .i64 0] 37)
  have hr : RdI (w.alloc (.cells #[.int .u8 3, .int .i64 0, .string s, .int .i64 0] 37)) (some ⟨w.heap.size, 0, none⟩) [⟨3, 0, s, 0⟩] := RdI.new w 37 [⟨3, 0, s, 0⟩]
  go_enter Tryz.func77, Tryz.ntmps77
  go_wp2
  go_ret
  exact ⟨w.heap.size, rfl, Nat.le_refl _, hr, hk⟩
set_option maxRecDepth 100000 in
set_option maxHeartbeats 1000000 in
theorem lrow_any (a : Option Addr) (n c : Nat) (w : World) : Calls Tryz.prog 14 #[.slice a n c] w fun e w' => e = .returned (.slice a n c) ∧ w = w' := by
  go_enter Tryz.func14, Tryz.ntmps14
  go_wp2
  go_ret
  exact ⟨rfl, rfl⟩
set_option maxRecDepth 100000 in
set_option maxHeartbeats 1000000 in
theorem lwhole_any (n : Int) (w : World) : Calls Tryz.prog 17 #[.int .i64 n] w fun e w' => e = .returned (.agg #[.int .u8 2, .int .i64 n, .string ⟨#[]⟩, .int .i64 0]) ∧ Below w.heap.size w w' := by
  have hk := (Below.refl w.heap.size w).alloc (Nat.le_refl _) (.cells #[.int .u8 2, .int .i64 n, .string ⟨#[]⟩, .int .i64 0] 37)
  go_enter Tryz.func17, Tryz.ntmps17
  go_wp2
  (try simp only [Exit.inBlock, Exit.then])
  refine bodyPost_ret (results_cell_row (P := Tryz.prog) (fn := Tryz.f17) rfl _ _ w.heap.size 37 #[.int .u8 2, .int .i64 n, .string ⟨#[]⟩, .int .i64 0] (0, 0) _ rfl (Blk.new w 37 #[.int .u8 2, .int .i64 n, .string ⟨#[]⟩, .int .i64 0]) Tryz.underlying37 rfl (by kernel_rfl)) rfl ?_
  exact ⟨rfl, hk⟩
set_option maxRecDepth 100000 in
set_option maxHeartbeats 1000000 in
theorem lstr_any (s : ByteArray) (w : World) : Calls Tryz.prog 15 #[.string s] w fun e w' => e = .returned (.agg #[.int .u8 3, .int .i64 0, .string s, .int .i64 0]) ∧ Below w.heap.size w w' := by
  have hk := (Below.refl w.heap.size w).alloc (Nat.le_refl _) (.cells #[.int .u8 3, .int .i64 0, .string s, .int .i64 0] 37)
  go_enter Tryz.func15, Tryz.ntmps15
  go_wp2
  (try simp only [Exit.inBlock, Exit.then])
  refine bodyPost_ret (results_cell_row (P := Tryz.prog) (fn := Tryz.f15) rfl _ _ w.heap.size 37 #[.int .u8 3, .int .i64 0, .string s, .int .i64 0] (0, 0) _ rfl (Blk.new w 37 #[.int .u8 3, .int .i64 0, .string s, .int .i64 0]) Tryz.underlying37 rfl (by kernel_rfl)) rfl ?_
  exact ⟨rfl, hk⟩
set_option maxRecDepth 100000 in
set_option maxHeartbeats 1000000 in
theorem lnode_any (n : Int) (s : ByteArray) (w : World) : Calls Tryz.prog 22 #[.int .i64 n, .string s] w fun e w' => e = .returned (.agg #[.int .u8 1, .int .i64 0, .string s, .int .i64 n]) ∧ Below w.heap.size w w' := by
  have hk := (Below.refl w.heap.size w).alloc (Nat.le_refl _) (.cells #[.int .u8 1, .int .i64 0, .string s, .int .i64 n] 37)
  go_enter Tryz.func22, Tryz.ntmps22
  go_wp2
  (try simp only [Exit.inBlock, Exit.then])
  refine bodyPost_ret (results_cell_row (P := Tryz.prog) (fn := Tryz.f22) rfl _ _ w.heap.size 37 #[.int .u8 1, .int .i64 0, .string s, .int .i64 n] (0, 0) _ rfl (Blk.new w 37 #[.int .u8 1, .int .i64 0, .string s, .int .i64 n]) Tryz.underlying37 rfl (by kernel_rfl)) rfl ?_
  exact ⟨rfl, hk⟩
end Go.Proofs.YtmnmnnocgimcpaaGreatDoor
