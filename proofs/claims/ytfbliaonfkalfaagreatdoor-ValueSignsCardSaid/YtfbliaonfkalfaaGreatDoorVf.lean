/- One item, alone. -/
import Derived.Test.YtfbliaonfkalfaaGreatDoorVa
namespace Go.Proofs.YtfbliaonfkalfaaGreatDoor
open Go.RowKit
set_option maxRecDepth 100000 in
set_option maxHeartbeats 1000000 in
theorem vwhole_any (n : Int) (w : World) : Calls Tryz.prog 24 #[.int .i64 n] w fun e w' => ∃ g, e = .returned (.slice (some ⟨g, 0, none⟩) 1 1) ∧ w.heap.size ≤ g ∧ RdI w' (some ⟨g, 0, none⟩) [⟨2, n, ⟨#[]⟩, 0⟩] ∧ Below w.heap.size w w' := by
  have hk := (Below.refl w.heap.size w).alloc (Nat.le_refl _) (.cells #[.int .u8 2, .int .i64 n, .string ⟨#[]⟩, .int .i64 0] 31)
  have hr : RdI (w.alloc (.cells #[.int .u8 2, .int .i64 n, .string ⟨#[]⟩, .int .i64 0] 31)) (some ⟨w.heap.size, 0, none⟩) [⟨2, n, ⟨#[]⟩, 0⟩] := RdI.new w 31 [⟨2, n, ⟨#[]⟩, 0⟩]
  go_enter Tryz.func24, Tryz.ntmps24
  go_wp2
  go_ret
  exact ⟨w.heap.size, rfl, Nat.le_refl _, hr, hk⟩
set_option maxRecDepth 100000 in
set_option maxHeartbeats 1000000 in
theorem vstr_any (s : ByteArray) (w : World) : Calls Tryz.prog 49 #[.string s] w fun e w' => ∃ g, e = .returned (.slice (some ⟨g, 0, none⟩) 1 1) ∧ w.heap.size ≤ g ∧ RdI w' (some ⟨g, 0, none⟩) [⟨3, 0, s, 0⟩] ∧ Below w.heap.size w w' := by
  have hk := (Below.refl w.heap.size w).alloc (Nat.le_refl _) (.cells #[.int .u8 3, .int .i64 0, .string s, .int .i64 0] 31)
  have hr : RdI (w.alloc (.cells #[.int .u8 3, .int .i64 0, .string s, .int .i64 0] 31)) (some ⟨w.heap.size, 0, none⟩) [⟨3, 0, s, 0⟩] := RdI.new w 31 [⟨3, 0, s, 0⟩]
  go_enter Tryz.func49, Tryz.ntmps49
  go_wp2
  go_ret
  exact ⟨w.heap.size, rfl, Nat.le_refl _, hr, hk⟩
set_option maxRecDepth 100000 in
set_option maxHeartbeats 1000000 in
theorem lrow_any (a : Option Addr) (n c : Nat) (w : World) : Calls Tryz.prog 7 #[.slice a n c] w fun e w' => e = .returned (.slice a n c) ∧ w = w' := by
  go_enter Tryz.func7, Tryz.ntmps7
  go_wp2
  go_ret
  exact ⟨rfl, rfl⟩
set_option maxRecDepth 100000 in
set_option maxHeartbeats 1000000 in
theorem lwhole_any (n : Int) (w : World) : Calls Tryz.prog 9 #[.int .i64 n] w fun e w' => e = .returned (.agg #[.int .u8 2, .int .i64 n, .string ⟨#[]⟩, .int .i64 0]) ∧ Below w.heap.size w w' := by
  have hk := (Below.refl w.heap.size w).alloc (Nat.le_refl _) (.cells #[.int .u8 2, .int .i64 n, .string ⟨#[]⟩, .int .i64 0] 31)
  go_enter Tryz.func9, Tryz.ntmps9
  go_wp2
  (try simp only [Exit.inBlock, Exit.then])
  refine bodyPost_ret (results_cell_row (P := Tryz.prog) (fn := Tryz.f9) rfl _ _ w.heap.size 31 #[.int .u8 2, .int .i64 n, .string ⟨#[]⟩, .int .i64 0] (0, 0) _ rfl (Blk.new w 31 #[.int .u8 2, .int .i64 n, .string ⟨#[]⟩, .int .i64 0]) Tryz.underlying31 rfl (by kernel_rfl)) rfl ?_
  exact ⟨rfl, hk⟩
set_option maxRecDepth 100000 in
set_option maxHeartbeats 1000000 in
theorem lstr_any (s : ByteArray) (w : World) : Calls Tryz.prog 11 #[.string s] w fun e w' => e = .returned (.agg #[.int .u8 3, .int .i64 0, .string s, .int .i64 0]) ∧ Below w.heap.size w w' := by
  have hk := (Below.refl w.heap.size w).alloc (Nat.le_refl _) (.cells #[.int .u8 3, .int .i64 0, .string s, .int .i64 0] 31)
  go_enter Tryz.func11, Tryz.ntmps11
  go_wp2
  (try simp only [Exit.inBlock, Exit.then])
  refine bodyPost_ret (results_cell_row (P := Tryz.prog) (fn := Tryz.f11) rfl _ _ w.heap.size 31 #[.int .u8 3, .int .i64 0, .string s, .int .i64 0] (0, 0) _ rfl (Blk.new w 31 #[.int .u8 3, .int .i64 0, .string s, .int .i64 0]) Tryz.underlying31 rfl (by kernel_rfl)) rfl ?_
  exact ⟨rfl, hk⟩
set_option maxRecDepth 100000 in
set_option maxHeartbeats 1000000 in
theorem lnode_any (n : Int) (s : ByteArray) (w : World) : Calls Tryz.prog 10 #[.int .i64 n, .string s] w fun e w' => e = .returned (.agg #[.int .u8 1, .int .i64 0, .string s, .int .i64 n]) ∧ Below w.heap.size w w' := by
  have hk := (Below.refl w.heap.size w).alloc (Nat.le_refl _) (.cells #[.int .u8 1, .int .i64 0, .string s, .int .i64 n] 31)
  go_enter Tryz.func10, Tryz.ntmps10
  go_wp2
  (try simp only [Exit.inBlock, Exit.then])
  refine bodyPost_ret (results_cell_row (P := Tryz.prog) (fn := Tryz.f10) rfl _ _ w.heap.size 31 #[.int .u8 1, .int .i64 0, .string s, .int .i64 n] (0, 0) _ rfl (Blk.new w 31 #[.int .u8 1, .int .i64 0, .string s, .int .i64 n]) Tryz.underlying31 rfl (by kernel_rfl)) rfl ?_
  exact ⟨rfl, hk⟩
end Go.Proofs.YtfbliaonfkalfaaGreatDoor

