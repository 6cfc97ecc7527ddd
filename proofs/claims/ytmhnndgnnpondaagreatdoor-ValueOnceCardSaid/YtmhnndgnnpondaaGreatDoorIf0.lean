/- parchmentkit: the flat functions of a nil list answer true. -/
import Derived.Test.YtmhnndgnnpondaaGreatDoorHk
namespace Go.Proofs.YtmhnndgnnpondaaGreatDoor
set_option maxRecDepth 100000
set_option maxHeartbeats 4000000
open Go.RowKit
theorem flatWords_nil (w : World) : Calls Tryz.prog 87 #[.slice none 0 0] w fun e w' => e = .returned (.bool true) ∧ Below w.heap.size w w' := by
 have hB := Below.refl w.heap.size w
 go_enter Tryz.func87, Tryz.ntmps87
 go_wp2_with fail
 go_loopw [3] (fun x W => x = .int .i64 0 ∧ Below w.heap.size w W) (fun _ _ => 0)
 case atStart => exact ⟨rfl, hB⟩
 case round =>
  clear hB
  obtain ⟨rfl, hB⟩ := hrel
  obtain ⟨j0, hj, hj0, hj1, hj2⟩ := info_parts (show (Tryz.prog.info? 168).map (fun i => (i.zero, i.size, i.bytes)) = some (some (.slice none 0 0), 1, 24) from by kernel_rfl)
  obtain ⟨w1, hmk, _, hg1⟩ := run_make_own (P := Tryz.prog) wr wr.heap.size 74 168 j0 _ 1 Tryz.underlying74 hj hj0 hj1 .i64 .i64 0 (by rw [hj2]; decide) (by decide) (Nat.le_refl _)
  rw [Int.natCast_zero] at hmk
  have hb1 : Below wr.heap.size wr w1 := (Below.refl _ _).grown hg1 (Nat.le_refl _) (by simp)
  have hB := chain0 hB hb1
  clear hj hj0 hj1 hj2 hg1 hb1
  go_wp2_with fail
  go_loopw [6] (fun x W => x = .int .i64 0 ∧ Below w.heap.size w W) (fun _ _ => 0)
  case atStart => exact ⟨rfl, hB⟩
  case round =>
   clear hB
   obtain ⟨rfl, hB⟩ := hrel
   go_wp2_with fail
   go_loopw [9] (fun x W => x = .int .i64 0 ∧ Below w.heap.size w W) (fun _ _ => 0)
   case atStart => exact ⟨rfl, hB⟩
   case round =>
    clear hB
    obtain ⟨rfl, hB⟩ := hrel
    go_wp2_with fail
    go_loopw [11] (fun x W => x = .int .i64 0 ∧ Below w.heap.size w W) (fun _ _ => 0)
    case atStart => exact ⟨rfl, hB⟩
    case round =>
     clear hB
     obtain ⟨rfl, hB⟩ := hrel
     go_wp2_with fail
     go_loopw [14] (fun x W => x = .int .i64 0 ∧ Below w.heap.size w W) (fun _ _ => 0)
     case atStart => exact ⟨rfl, hB⟩
     case round =>
      clear hB
      obtain ⟨rfl, hB⟩ := hrel
      go_wp2
      go_ret
      exact ⟨rfl, hB⟩
theorem flatInts_nil (w : World) : Calls Tryz.prog 88 #[.slice none 0 0] w fun e w' => e = .returned (.bool true) ∧ Below w.heap.size w w' := by
 have hB := Below.refl w.heap.size w
 go_enter Tryz.func88, Tryz.ntmps88
 go_wp2_with fail
 go_loopw [3] (fun x W => x = .int .i64 0 ∧ Below w.heap.size w W) (fun _ _ => 0)
 case atStart => exact ⟨rfl, hB⟩
 case round =>
  clear hB
  obtain ⟨rfl, hB⟩ := hrel
  obtain ⟨j0, hj, hj0, hj1, hj2⟩ := info_parts (show (Tryz.prog.info? 169).map (fun i => (i.zero, i.size, i.bytes)) = some (some (.slice none 0 0), 1, 24) from by kernel_rfl)
  obtain ⟨w1, hmk, _, hg1⟩ := run_make_own (P := Tryz.prog) wr wr.heap.size 75 169 j0 _ 1 Tryz.underlying75 hj hj0 hj1 .i64 .i64 0 (by rw [hj2]; decide) (by decide) (Nat.le_refl _)
  rw [Int.natCast_zero] at hmk
  have hb1 : Below wr.heap.size wr w1 := (Below.refl _ _).grown hg1 (Nat.le_refl _) (by simp)
  have hB := chain0 hB hb1
  clear hj hj0 hj1 hj2 hg1 hb1
  go_wp2_with fail
  go_loopw [6] (fun x W => x = .int .i64 0 ∧ Below w.heap.size w W) (fun _ _ => 0)
  case atStart => exact ⟨rfl, hB⟩
  case round =>
   clear hB
   obtain ⟨rfl, hB⟩ := hrel
   go_wp2_with fail
   go_loopw [9] (fun x W => x = .int .i64 0 ∧ Below w.heap.size w W) (fun _ _ => 0)
   case atStart => exact ⟨rfl, hB⟩
   case round =>
    clear hB
    obtain ⟨rfl, hB⟩ := hrel
    go_wp2_with fail
    go_loopw [11] (fun x W => x = .int .i64 0 ∧ Below w.heap.size w W) (fun _ _ => 0)
    case atStart => exact ⟨rfl, hB⟩
    case round =>
     clear hB
     obtain ⟨rfl, hB⟩ := hrel
     go_wp2_with fail
     go_loopw [14] (fun x W => x = .int .i64 0 ∧ Below w.heap.size w W) (fun _ _ => 0)
     case atStart => exact ⟨rfl, hB⟩
     case round =>
      clear hB
      obtain ⟨rfl, hB⟩ := hrel
      go_wp2
      go_ret
      exact ⟨rfl, hB⟩
theorem flatLongs_nil (w : World) : Calls Tryz.prog 89 #[.slice none 0 0] w fun e w' => e = .returned (.bool true) ∧ Below w.heap.size w w' := by
 have hB := Below.refl w.heap.size w
 go_enter Tryz.func89, Tryz.ntmps89
 go_wp2_with fail
 go_loopw [3] (fun x W => x = .int .i64 0 ∧ Below w.heap.size w W) (fun _ _ => 0)
 case atStart => exact ⟨rfl, hB⟩
 case round =>
  clear hB
  obtain ⟨rfl, hB⟩ := hrel
  obtain ⟨j0, hj, hj0, hj1, hj2⟩ := info_parts (show (Tryz.prog.info? 170).map (fun i => (i.zero, i.size, i.bytes)) = some (some (.slice none 0 0), 1, 24) from by kernel_rfl)
  obtain ⟨w1, hmk, _, hg1⟩ := run_make_own (P := Tryz.prog) wr wr.heap.size 76 170 j0 _ 1 Tryz.underlying76 hj hj0 hj1 .i64 .i64 0 (by rw [hj2]; decide) (by decide) (Nat.le_refl _)
  rw [Int.natCast_zero] at hmk
  have hb1 : Below wr.heap.size wr w1 := (Below.refl _ _).grown hg1 (Nat.le_refl _) (by simp)
  have hB := chain0 hB hb1
  clear hj hj0 hj1 hj2 hg1 hb1
  go_wp2_with fail
  go_loopw [6] (fun x W => x = .int .i64 0 ∧ Below w.heap.size w W) (fun _ _ => 0)
  case atStart => exact ⟨rfl, hB⟩
  case round =>
   clear hB
   obtain ⟨rfl, hB⟩ := hrel
   go_wp2_with fail
   go_loopw [9] (fun x W => x = .int .i64 0 ∧ Below w.heap.size w W) (fun _ _ => 0)
   case atStart => exact ⟨rfl, hB⟩
   case round =>
    clear hB
    obtain ⟨rfl, hB⟩ := hrel
    go_wp2_with fail
    go_loopw [11] (fun x W => x = .int .i64 0 ∧ Below w.heap.size w W) (fun _ _ => 0)
    case atStart => exact ⟨rfl, hB⟩
    case round =>
     clear hB
     obtain ⟨rfl, hB⟩ := hrel
     go_wp2_with fail
     go_loopw [14] (fun x W => x = .int .i64 0 ∧ Below w.heap.size w W) (fun _ _ => 0)
     case atStart => exact ⟨rfl, hB⟩
     case round =>
      clear hB
      obtain ⟨rfl, hB⟩ := hrel
      go_wp2
      go_ret
      exact ⟨rfl, hB⟩
theorem flatTexts_nil (w : World) : Calls Tryz.prog 90 #[.slice none 0 0] w fun e w' => e = .returned (.bool true) ∧ Below w.heap.size w w' := by
 have hB := Below.refl w.heap.size w
 go_enter Tryz.func90, Tryz.ntmps90
 go_wp2_with fail
 go_loopw [3] (fun x W => x = .int .i64 0 ∧ Below w.heap.size w W) (fun _ _ => 0)
 case atStart => exact ⟨rfl, hB⟩
 case round =>
  clear hB
  obtain ⟨rfl, hB⟩ := hrel
  obtain ⟨j0, hj, hj0, hj1, hj2⟩ := info_parts (show (Tryz.prog.info? 57).map (fun i => (i.zero, i.size, i.bytes)) = some (some (.slice none 0 0), 1, 24) from by kernel_rfl)
  obtain ⟨w1, hmk, _, hg1⟩ := run_make_own (P := Tryz.prog) wr wr.heap.size 77 57 j0 _ 1 Tryz.underlying77 hj hj0 hj1 .i64 .i64 0 (by rw [hj2]; decide) (by decide) (Nat.le_refl _)
  rw [Int.natCast_zero] at hmk
  have hb1 : Below wr.heap.size wr w1 := (Below.refl _ _).grown hg1 (Nat.le_refl _) (by simp)
  have hB := chain0 hB hb1
  clear hj hj0 hj1 hj2 hg1 hb1
  go_wp2_with fail
  go_loopw [6] (fun x W => x = .int .i64 0 ∧ Below w.heap.size w W) (fun _ _ => 0)
  case atStart => exact ⟨rfl, hB⟩
  case round =>
   clear hB
   obtain ⟨rfl, hB⟩ := hrel
   go_wp2_with fail
   go_loopw [9] (fun x W => x = .int .i64 0 ∧ Below w.heap.size w W) (fun _ _ => 0)
   case atStart => exact ⟨rfl, hB⟩
   case round =>
    clear hB
    obtain ⟨rfl, hB⟩ := hrel
    go_wp2_with fail
    go_loopw [11] (fun x W => x = .int .i64 0 ∧ Below w.heap.size w W) (fun _ _ => 0)
    case atStart => exact ⟨rfl, hB⟩
    case round =>
     clear hB
     obtain ⟨rfl, hB⟩ := hrel
     go_wp2_with fail
     go_loopw [14] (fun x W => x = .int .i64 0 ∧ Below w.heap.size w W) (fun _ _ => 0)
     case atStart => exact ⟨rfl, hB⟩
     case round =>
      clear hB
      obtain ⟨rfl, hB⟩ := hrel
      go_wp2
      go_ret
      exact ⟨rfl, hB⟩
theorem flatBytes_nil (w : World) : Calls Tryz.prog 91 #[.slice none 0 0] w fun e w' => e = .returned (.bool true) ∧ Below w.heap.size w w' := by
 have hB := Below.refl w.heap.size w
 go_enter Tryz.func91, Tryz.ntmps91
 go_wp2_with fail
 go_loopw [3] (fun x W => x = .int .i64 0 ∧ Below w.heap.size w W) (fun _ _ => 0)
 case atStart => exact ⟨rfl, hB⟩
 case round =>
  clear hB
  obtain ⟨rfl, hB⟩ := hrel
  obtain ⟨j0, hj, hj0, hj1, hj2⟩ := info_parts (show (Tryz.prog.info? 144).map (fun i => (i.zero, i.size, i.bytes)) = some (some (.slice none 0 0), 1, 24) from by kernel_rfl)
  obtain ⟨w1, hmk, _, hg1⟩ := run_make_own (P := Tryz.prog) wr wr.heap.size 78 144 j0 _ 1 Tryz.underlying78 hj hj0 hj1 .i64 .i64 0 (by rw [hj2]; decide) (by decide) (Nat.le_refl _)
  rw [Int.natCast_zero] at hmk
  have hb1 : Below wr.heap.size wr w1 := (Below.refl _ _).grown hg1 (Nat.le_refl _) (by simp)
  have hB := chain0 hB hb1
  clear hj hj0 hj1 hj2 hg1 hb1
  go_wp2_with fail
  go_loopw [6] (fun x W => x = .int .i64 0 ∧ Below w.heap.size w W) (fun _ _ => 0)
  case atStart => exact ⟨rfl, hB⟩
  case round =>
   clear hB
   obtain ⟨rfl, hB⟩ := hrel
   go_wp2_with fail
   go_loopw [9] (fun x W => x = .int .i64 0 ∧ Below w.heap.size w W) (fun _ _ => 0)
   case atStart => exact ⟨rfl, hB⟩
   case round =>
    clear hB
    obtain ⟨rfl, hB⟩ := hrel
    go_wp2_with fail
    go_loopw [11] (fun x W => x = .int .i64 0 ∧ Below w.heap.size w W) (fun _ _ => 0)
    case atStart => exact ⟨rfl, hB⟩
    case round =>
     clear hB
     obtain ⟨rfl, hB⟩ := hrel
     go_wp2_with fail
     go_loopw [14] (fun x W => x = .int .i64 0 ∧ Below w.heap.size w W) (fun _ _ => 0)
     case atStart => exact ⟨rfl, hB⟩
     case round =>
      clear hB
      obtain ⟨rfl, hB⟩ := hrel
      go_wp2
      go_ret
      exact ⟨rfl, hB⟩
theorem flatNodes_nil (w : World) : Calls Tryz.prog 92 #[.slice none 0 0] w fun e w' => e = .returned (.bool true) ∧ Below w.heap.size w w' := by
 have hB := Below.refl w.heap.size w
 go_enter Tryz.func92, Tryz.ntmps92
 go_wp2_with fail
 go_loopw [3] (fun x W => x = .int .i64 0 ∧ Below w.heap.size w W) (fun _ _ => 0)
 case atStart => exact ⟨rfl, hB⟩
 case round =>
  clear hB
  obtain ⟨rfl, hB⟩ := hrel
  obtain ⟨j0, hj, hj0, hj1, hj2⟩ := info_parts (show (Tryz.prog.info? 173).map (fun i => (i.zero, i.size, i.bytes)) = some (some (.slice none 0 0), 1, 24) from by kernel_rfl)
  obtain ⟨w1, hmk, _, hg1⟩ := run_make_own (P := Tryz.prog) wr wr.heap.size 79 173 j0 _ 1 Tryz.underlying79 hj hj0 hj1 .i64 .i64 0 (by rw [hj2]; decide) (by decide) (Nat.le_refl _)
  rw [Int.natCast_zero] at hmk
  have hb1 : Below wr.heap.size wr w1 := (Below.refl _ _).grown hg1 (Nat.le_refl _) (by simp)
  have hB := chain0 hB hb1
  clear hj hj0 hj1 hj2 hg1 hb1
  go_wp2_with fail
  go_loopw [6] (fun x W => x = .int .i64 0 ∧ Below w.heap.size w W) (fun _ _ => 0)
  case atStart => exact ⟨rfl, hB⟩
  case round =>
   clear hB
   obtain ⟨rfl, hB⟩ := hrel
   go_wp2_with fail
   go_loopw [9] (fun x W => x = .int .i64 0 ∧ Below w.heap.size w W) (fun _ _ => 0)
   case atStart => exact ⟨rfl, hB⟩
   case round =>
    clear hB
    obtain ⟨rfl, hB⟩ := hrel
    go_wp2_with fail
    go_loopw [11] (fun x W => x = .int .i64 0 ∧ Below w.heap.size w W) (fun _ _ => 0)
    case atStart => exact ⟨rfl, hB⟩
    case round =>
     clear hB
     obtain ⟨rfl, hB⟩ := hrel
     go_wp2_with fail
     go_loopw [14] (fun x W => x = .int .i64 0 ∧ Below w.heap.size w W) (fun _ _ => 0)
     case atStart => exact ⟨rfl, hB⟩
     case round =>
      clear hB
      obtain ⟨rfl, hB⟩ := hrel
      go_wp2
      go_ret
      exact ⟨rfl, hB⟩
theorem flatFates_nil (w : World) : Calls Tryz.prog 93 #[.slice none 0 0] w fun e w' => e = .returned (.bool true) ∧ Below w.heap.size w w' := by
 have hB := Below.refl w.heap.size w
 go_enter Tryz.func93, Tryz.ntmps93
 go_wp2_with fail
 go_loopw [3] (fun x W => x = .int .i64 0 ∧ Below w.heap.size w W) (fun _ _ => 0)
 case atStart => exact ⟨rfl, hB⟩
 case round =>
  clear hB
  obtain ⟨rfl, hB⟩ := hrel
  obtain ⟨j0, hj, hj0, hj1, hj2⟩ := info_parts (show (Tryz.prog.info? 178).map (fun i => (i.zero, i.size, i.bytes)) = some (some (.slice none 0 0), 1, 24) from by kernel_rfl)
  obtain ⟨w1, hmk, _, hg1⟩ := run_make_own (P := Tryz.prog) wr wr.heap.size 80 178 j0 _ 1 Tryz.underlying80 hj hj0 hj1 .i64 .i64 0 (by rw [hj2]; decide) (by decide) (Nat.le_refl _)
  rw [Int.natCast_zero] at hmk
  have hb1 : Below wr.heap.size wr w1 := (Below.refl _ _).grown hg1 (Nat.le_refl _) (by simp)
  have hB := chain0 hB hb1
  clear hj hj0 hj1 hj2 hg1 hb1
  go_wp2_with fail
  go_loopw [6] (fun x W => x = .int .i64 0 ∧ Below w.heap.size w W) (fun _ _ => 0)
  case atStart => exact ⟨rfl, hB⟩
  case round =>
   clear hB
   obtain ⟨rfl, hB⟩ := hrel
   go_wp2_with fail
   go_loopw [9] (fun x W => x = .int .i64 0 ∧ Below w.heap.size w W) (fun _ _ => 0)
   case atStart => exact ⟨rfl, hB⟩
   case round =>
    clear hB
    obtain ⟨rfl, hB⟩ := hrel
    go_wp2_with fail
    go_loopw [11] (fun x W => x = .int .i64 0 ∧ Below w.heap.size w W) (fun _ _ => 0)
    case atStart => exact ⟨rfl, hB⟩
    case round =>
     clear hB
     obtain ⟨rfl, hB⟩ := hrel
     go_wp2_with fail
     go_loopw [14] (fun x W => x = .int .i64 0 ∧ Below w.heap.size w W) (fun _ _ => 0)
     case atStart => exact ⟨rfl, hB⟩
     case round =>
      clear hB
      obtain ⟨rfl, hB⟩ := hrel
      go_wp2
      go_ret
      exact ⟨rfl, hB⟩
theorem flatSpans_nil (w : World) : Calls Tryz.prog 94 #[.slice none 0 0] w fun e w' => e = .returned (.bool true) ∧ Below w.heap.size w w' := by
 have hB := Below.refl w.heap.size w
 go_enter Tryz.func94, Tryz.ntmps94
 go_wp2_with fail
 go_loopw [3] (fun x W => x = .int .i64 0 ∧ Below w.heap.size w W) (fun _ _ => 0)
 case atStart => exact ⟨rfl, hB⟩
 case round =>
  clear hB
  obtain ⟨rfl, hB⟩ := hrel
  obtain ⟨j0, hj, hj0, hj1, hj2⟩ := info_parts (show (Tryz.prog.info? 182).map (fun i => (i.zero, i.size, i.bytes)) = some (some (.slice none 0 0), 1, 24) from by kernel_rfl)
  obtain ⟨w1, hmk, _, hg1⟩ := run_make_own (P := Tryz.prog) wr wr.heap.size 81 182 j0 _ 1 Tryz.underlying81 hj hj0 hj1 .i64 .i64 0 (by rw [hj2]; decide) (by decide) (Nat.le_refl _)
  rw [Int.natCast_zero] at hmk
  have hb1 : Below wr.heap.size wr w1 := (Below.refl _ _).grown hg1 (Nat.le_refl _) (by simp)
  have hB := chain0 hB hb1
  clear hj hj0 hj1 hj2 hg1 hb1
  go_wp2_with fail
  go_loopw [6] (fun x W => x = .int .i64 0 ∧ Below w.heap.size w W) (fun _ _ => 0)
  case atStart => exact ⟨rfl, hB⟩
  case round =>
   clear hB
   obtain ⟨rfl, hB⟩ := hrel
   go_wp2_with fail
   go_loopw [9] (fun x W => x = .int .i64 0 ∧ Below w.heap.size w W) (fun _ _ => 0)
   case atStart => exact ⟨rfl, hB⟩
   case round =>
    clear hB
    obtain ⟨rfl, hB⟩ := hrel
    go_wp2_with fail
    go_loopw [11] (fun x W => x = .int .i64 0 ∧ Below w.heap.size w W) (fun _ _ => 0)
    case atStart => exact ⟨rfl, hB⟩
    case round =>
     clear hB
     obtain ⟨rfl, hB⟩ := hrel
     go_wp2_with fail
     go_loopw [14] (fun x W => x = .int .i64 0 ∧ Below w.heap.size w W) (fun _ _ => 0)
     case atStart => exact ⟨rfl, hB⟩
     case round =>
      clear hB
      obtain ⟨rfl, hB⟩ := hrel
      go_wp2
      go_ret
      exact ⟨rfl, hB⟩
theorem flatDirties_nil (w : World) : Calls Tryz.prog 95 #[.slice none 0 0] w fun e w' => e = .returned (.bool true) ∧ Below w.heap.size w w' := by
 have hB := Below.refl w.heap.size w
 go_enter Tryz.func95, Tryz.ntmps95
 go_wp2_with fail
 go_loopw [3] (fun x W => x = .int .i64 0 ∧ Below w.heap.size w W) (fun _ _ => 0)
 case atStart => exact ⟨rfl, hB⟩
 case round =>
  clear hB
  obtain ⟨rfl, hB⟩ := hrel
  obtain ⟨j0, hj, hj0, hj1, hj2⟩ := info_parts (show (Tryz.prog.info? 187).map (fun i => (i.zero, i.size, i.bytes)) = some (some (.slice none 0 0), 1, 24) from by kernel_rfl)
  obtain ⟨w1, hmk, _, hg1⟩ := run_make_own (P := Tryz.prog) wr wr.heap.size 82 187 j0 _ 1 Tryz.underlying82 hj hj0 hj1 .i64 .i64 0 (by rw [hj2]; decide) (by decide) (Nat.le_refl _)
  rw [Int.natCast_zero] at hmk
  have hb1 : Below wr.heap.size wr w1 := (Below.refl _ _).grown hg1 (Nat.le_refl _) (by simp)
  have hB := chain0 hB hb1
  clear hj hj0 hj1 hj2 hg1 hb1
  go_wp2_with fail
  go_loopw [6] (fun x W => x = .int .i64 0 ∧ Below w.heap.size w W) (fun _ _ => 0)
  case atStart => exact ⟨rfl, hB⟩
  case round =>
   clear hB
   obtain ⟨rfl, hB⟩ := hrel
   go_wp2_with fail
   go_loopw [9] (fun x W => x = .int .i64 0 ∧ Below w.heap.size w W) (fun _ _ => 0)
   case atStart => exact ⟨rfl, hB⟩
   case round =>
    clear hB
    obtain ⟨rfl, hB⟩ := hrel
    go_wp2_with fail
    go_loopw [11] (fun x W => x = .int .i64 0 ∧ Below w.heap.size w W) (fun _ _ => 0)
    case atStart => exact ⟨rfl, hB⟩
    case round =>
     clear hB
     obtain ⟨rfl, hB⟩ := hrel
     go_wp2_with fail
     go_loopw [14] (fun x W => x = .int .i64 0 ∧ Below w.heap.size w W) (fun _ _ => 0)
     case atStart => exact ⟨rfl, hB⟩
     case round =>
      clear hB
      obtain ⟨rfl, hB⟩ := hrel
      go_wp2
      go_ret
      exact ⟨rfl, hB⟩
theorem flatRecords_nil (w : World) : Calls Tryz.prog 96 #[.slice none 0 0] w fun e w' => e = .returned (.bool true) ∧ Below w.heap.size w w' := by
 have hB := Below.refl w.heap.size w
 go_enter Tryz.func96, Tryz.ntmps96
 go_wp2_with fail
 go_loopw [3] (fun x W => x = .int .i64 0 ∧ Below w.heap.size w W) (fun _ _ => 0)
 case atStart => exact ⟨rfl, hB⟩
 case round =>
  clear hB
  obtain ⟨rfl, hB⟩ := hrel
  obtain ⟨j0, hj, hj0, hj1, hj2⟩ := info_parts (show (Tryz.prog.info? 191).map (fun i => (i.zero, i.size, i.bytes)) = some (some (.slice none 0 0), 1, 24) from by kernel_rfl)
  obtain ⟨w1, hmk, _, hg1⟩ := run_make_own (P := Tryz.prog) wr wr.heap.size 83 191 j0 _ 1 Tryz.underlying83 hj hj0 hj1 .i64 .i64 0 (by rw [hj2]; decide) (by decide) (Nat.le_refl _)
  rw [Int.natCast_zero] at hmk
  have hb1 : Below wr.heap.size wr w1 := (Below.refl _ _).grown hg1 (Nat.le_refl _) (by simp)
  have hB := chain0 hB hb1
  clear hj hj0 hj1 hj2 hg1 hb1
  go_wp2_with fail
  go_loopw [6] (fun x W => x = .int .i64 0 ∧ Below w.heap.size w W) (fun _ _ => 0)
  case atStart => exact ⟨rfl, hB⟩
  case round =>
   clear hB
   obtain ⟨rfl, hB⟩ := hrel
   go_wp2_with fail
   go_loopw [9] (fun x W => x = .int .i64 0 ∧ Below w.heap.size w W) (fun _ _ => 0)
   case atStart => exact ⟨rfl, hB⟩
   case round =>
    clear hB
    obtain ⟨rfl, hB⟩ := hrel
    go_wp2_with fail
    go_loopw [11] (fun x W => x = .int .i64 0 ∧ Below w.heap.size w W) (fun _ _ => 0)
    case atStart => exact ⟨rfl, hB⟩
    case round =>
     clear hB
     obtain ⟨rfl, hB⟩ := hrel
     go_wp2_with fail
     go_loopw [14] (fun x W => x = .int .i64 0 ∧ Below w.heap.size w W) (fun _ _ => 0)
     case atStart => exact ⟨rfl, hB⟩
     case round =>
      clear hB
      obtain ⟨rfl, hB⟩ := hrel
      go_wp2
      go_ret
      exact ⟨rfl, hB⟩
theorem flatCells_nil (w : World) : Calls Tryz.prog 97 #[.slice none 0 0] w fun e w' => e = .returned (.bool true) ∧ Below w.heap.size w w' := by
 have hB := Below.refl w.heap.size w
 go_enter Tryz.func97, Tryz.ntmps97
 go_wp2_with fail
 go_loopw [3] (fun x W => x = .int .i64 0 ∧ Below w.heap.size w W) (fun _ _ => 0)
 case atStart => exact ⟨rfl, hB⟩
 case round =>
  clear hB
  obtain ⟨rfl, hB⟩ := hrel
  obtain ⟨j0, hj, hj0, hj1, hj2⟩ := info_parts (show (Tryz.prog.info? 197).map (fun i => (i.zero, i.size, i.bytes)) = some (some (.slice none 0 0), 1, 24) from by kernel_rfl)
  obtain ⟨w1, hmk, _, hg1⟩ := run_make_own (P := Tryz.prog) wr wr.heap.size 84 197 j0 _ 1 Tryz.underlying84 hj hj0 hj1 .i64 .i64 0 (by rw [hj2]; decide) (by decide) (Nat.le_refl _)
  rw [Int.natCast_zero] at hmk
  have hb1 : Below wr.heap.size wr w1 := (Below.refl _ _).grown hg1 (Nat.le_refl _) (by simp)
  have hB := chain0 hB hb1
  clear hj hj0 hj1 hj2 hg1 hb1
  go_wp2_with fail
  go_loopw [6] (fun x W => x = .int .i64 0 ∧ Below w.heap.size w W) (fun _ _ => 0)
  case atStart => exact ⟨rfl, hB⟩
  case round =>
   clear hB
   obtain ⟨rfl, hB⟩ := hrel
   go_wp2_with fail
   go_loopw [9] (fun x W => x = .int .i64 0 ∧ Below w.heap.size w W) (fun _ _ => 0)
   case atStart => exact ⟨rfl, hB⟩
   case round =>
    clear hB
    obtain ⟨rfl, hB⟩ := hrel
    go_wp2_with fail
    go_loopw [11] (fun x W => x = .int .i64 0 ∧ Below w.heap.size w W) (fun _ _ => 0)
    case atStart => exact ⟨rfl, hB⟩
    case round =>
     clear hB
     obtain ⟨rfl, hB⟩ := hrel
     go_wp2_with fail
     go_loopw [14] (fun x W => x = .int .i64 0 ∧ Below w.heap.size w W) (fun _ _ => 0)
     case atStart => exact ⟨rfl, hB⟩
     case round =>
      clear hB
      obtain ⟨rfl, hB⟩ := hrel
      go_wp2
      go_ret
      exact ⟨rfl, hB⟩
theorem flatHelds_nil (w : World) : Calls Tryz.prog 98 #[.slice none 0 0] w fun e w' => e = .returned (.bool true) ∧ Below w.heap.size w w' := by
 have hB := Below.refl w.heap.size w
 go_enter Tryz.func98, Tryz.ntmps98
 go_wp2_with fail
 go_loopw [3] (fun x W => x = .int .i64 0 ∧ Below w.heap.size w W) (fun _ _ => 0)
 case atStart => exact ⟨rfl, hB⟩
 case round =>
  clear hB
  obtain ⟨rfl, hB⟩ := hrel
  obtain ⟨j0, hj, hj0, hj1, hj2⟩ := info_parts (show (Tryz.prog.info? 202).map (fun i => (i.zero, i.size, i.bytes)) = some (some (.slice none 0 0), 1, 24) from by kernel_rfl)
  obtain ⟨w1, hmk, _, hg1⟩ := run_make_own (P := Tryz.prog) wr wr.heap.size 85 202 j0 _ 1 Tryz.underlying85 hj hj0 hj1 .i64 .i64 0 (by rw [hj2]; decide) (by decide) (Nat.le_refl _)
  rw [Int.natCast_zero] at hmk
  have hb1 : Below wr.heap.size wr w1 := (Below.refl _ _).grown hg1 (Nat.le_refl _) (by simp)
  have hB := chain0 hB hb1
  clear hj hj0 hj1 hj2 hg1 hb1
  go_wp2_with fail
  go_loopw [6] (fun x W => x = .int .i64 0 ∧ Below w.heap.size w W) (fun _ _ => 0)
  case atStart => exact ⟨rfl, hB⟩
  case round =>
   clear hB
   obtain ⟨rfl, hB⟩ := hrel
   go_wp2_with fail
   go_loopw [9] (fun x W => x = .int .i64 0 ∧ Below w.heap.size w W) (fun _ _ => 0)
   case atStart => exact ⟨rfl, hB⟩
   case round =>
    clear hB
    obtain ⟨rfl, hB⟩ := hrel
    go_wp2_with fail
    go_loopw [11] (fun x W => x = .int .i64 0 ∧ Below w.heap.size w W) (fun _ _ => 0)
    case atStart => exact ⟨rfl, hB⟩
    case round =>
     clear hB
     obtain ⟨rfl, hB⟩ := hrel
     go_wp2_with fail
     go_loopw [14] (fun x W => x = .int .i64 0 ∧ Below w.heap.size w W) (fun _ _ => 0)
     case atStart => exact ⟨rfl, hB⟩
     case round =>
      clear hB
      obtain ⟨rfl, hB⟩ := hrel
      go_wp2
      go_ret
      exact ⟨rfl, hB⟩
theorem flatTokens_nil (w : World) : Calls Tryz.prog 99 #[.slice none 0 0] w fun e w' => e = .returned (.bool true) ∧ Below w.heap.size w w' := by
 have hB := Below.refl w.heap.size w
 go_enter Tryz.func99, Tryz.ntmps99
 go_wp2_with fail
 go_loopw [3] (fun x W => x = .int .i64 0 ∧ Below w.heap.size w W) (fun _ _ => 0)
 case atStart => exact ⟨rfl, hB⟩
 case round =>
  clear hB
  obtain ⟨rfl, hB⟩ := hrel
  obtain ⟨j0, hj, hj0, hj1, hj2⟩ := info_parts (show (Tryz.prog.info? 207).map (fun i => (i.zero, i.size, i.bytes)) = some (some (.slice none 0 0), 1, 24) from by kernel_rfl)
  obtain ⟨w1, hmk, _, hg1⟩ := run_make_own (P := Tryz.prog) wr wr.heap.size 86 207 j0 _ 1 Tryz.underlying86 hj hj0 hj1 .i64 .i64 0 (by rw [hj2]; decide) (by decide) (Nat.le_refl _)
  rw [Int.natCast_zero] at hmk
  have hb1 : Below wr.heap.size wr w1 := (Below.refl _ _).grown hg1 (Nat.le_refl _) (by simp)
  have hB := chain0 hB hb1
  clear hj hj0 hj1 hj2 hg1 hb1
  go_wp2_with fail
  go_loopw [6] (fun x W => x = .int .i64 0 ∧ Below w.heap.size w W) (fun _ _ => 0)
  case atStart => exact ⟨rfl, hB⟩
  case round =>
   clear hB
   obtain ⟨rfl, hB⟩ := hrel
   go_wp2_with fail
   go_loopw [9] (fun x W => x = .int .i64 0 ∧ Below w.heap.size w W) (fun _ _ => 0)
   case atStart => exact ⟨rfl, hB⟩
   case round =>
    clear hB
    obtain ⟨rfl, hB⟩ := hrel
    go_wp2_with fail
    go_loopw [11] (fun x W => x = .int .i64 0 ∧ Below w.heap.size w W) (fun _ _ => 0)
    case atStart => exact ⟨rfl, hB⟩
    case round =>
     clear hB
     obtain ⟨rfl, hB⟩ := hrel
     go_wp2_with fail
     go_loopw [14] (fun x W => x = .int .i64 0 ∧ Below w.heap.size w W) (fun _ _ => 0)
     case atStart => exact ⟨rfl, hB⟩
     case round =>
      clear hB
      obtain ⟨rfl, hB⟩ := hrel
      go_wp2
      go_ret
      exact ⟨rfl, hB⟩
theorem flatExprs_nil (w : World) : Calls Tryz.prog 100 #[.slice none 0 0] w fun e w' => e = .returned (.bool true) ∧ Below w.heap.size w w' := by
 have hB := Below.refl w.heap.size w
 go_enter Tryz.func100, Tryz.ntmps100
 go_wp2_with fail
 go_loopw [3] (fun x W => x = .int .i64 0 ∧ Below w.heap.size w W) (fun _ _ => 0)
 case atStart => exact ⟨rfl, hB⟩
 case round =>
  clear hB
  obtain ⟨rfl, hB⟩ := hrel
  obtain ⟨j0, hj, hj0, hj1, hj2⟩ := info_parts (show (Tryz.prog.info? 212).map (fun i => (i.zero, i.size, i.bytes)) = some (some (.slice none 0 0), 1, 24) from by kernel_rfl)
  obtain ⟨w1, hmk, _, hg1⟩ := run_make_own (P := Tryz.prog) wr wr.heap.size 87 212 j0 _ 1 Tryz.underlying87 hj hj0 hj1 .i64 .i64 0 (by rw [hj2]; decide) (by decide) (Nat.le_refl _)
  rw [Int.natCast_zero] at hmk
  have hb1 : Below wr.heap.size wr w1 := (Below.refl _ _).grown hg1 (Nat.le_refl _) (by simp)
  have hB := chain0 hB hb1
  clear hj hj0 hj1 hj2 hg1 hb1
  go_wp2_with fail
  go_loopw [6] (fun x W => x = .int .i64 0 ∧ Below w.heap.size w W) (fun _ _ => 0)
  case atStart => exact ⟨rfl, hB⟩
  case round =>
   clear hB
   obtain ⟨rfl, hB⟩ := hrel
   go_wp2_with fail
   go_loopw [9] (fun x W => x = .int .i64 0 ∧ Below w.heap.size w W) (fun _ _ => 0)
   case atStart => exact ⟨rfl, hB⟩
   case round =>
    clear hB
    obtain ⟨rfl, hB⟩ := hrel
    go_wp2_with fail
    go_loopw [11] (fun x W => x = .int .i64 0 ∧ Below w.heap.size w W) (fun _ _ => 0)
    case atStart => exact ⟨rfl, hB⟩
    case round =>
     clear hB
     obtain ⟨rfl, hB⟩ := hrel
     go_wp2_with fail
     go_loopw [14] (fun x W => x = .int .i64 0 ∧ Below w.heap.size w W) (fun _ _ => 0)
     case atStart => exact ⟨rfl, hB⟩
     case round =>
      clear hB
      obtain ⟨rfl, hB⟩ := hrel
      go_wp2
      go_ret
      exact ⟨rfl, hB⟩
theorem flatShowns_nil (w : World) : Calls Tryz.prog 102 #[.slice none 0 0] w fun e w' => e = .returned (.bool true) ∧ Below w.heap.size w w' := by
 have hB := Below.refl w.heap.size w
 go_enter Tryz.func102, Tryz.ntmps102
 go_wp2_with fail
 go_loopw [3] (fun x W => x = .int .i64 0 ∧ Below w.heap.size w W) (fun _ _ => 0)
 case atStart => exact ⟨rfl, hB⟩
 case round =>
  clear hB
  obtain ⟨rfl, hB⟩ := hrel
  obtain ⟨j0, hj, hj0, hj1, hj2⟩ := info_parts (show (Tryz.prog.info? 220).map (fun i => (i.zero, i.size, i.bytes)) = some (some (.slice none 0 0), 1, 24) from by kernel_rfl)
  obtain ⟨w1, hmk, _, hg1⟩ := run_make_own (P := Tryz.prog) wr wr.heap.size 88 220 j0 _ 1 Tryz.underlying88 hj hj0 hj1 .i64 .i64 0 (by rw [hj2]; decide) (by decide) (Nat.le_refl _)
  rw [Int.natCast_zero] at hmk
  have hb1 : Below wr.heap.size wr w1 := (Below.refl _ _).grown hg1 (Nat.le_refl _) (by simp)
  have hB := chain0 hB hb1
  clear hj hj0 hj1 hj2 hg1 hb1
  go_wp2_with fail
  go_loopw [6] (fun x W => x = .int .i64 0 ∧ Below w.heap.size w W) (fun _ _ => 0)
  case atStart => exact ⟨rfl, hB⟩
  case round =>
   clear hB
   obtain ⟨rfl, hB⟩ := hrel
   go_wp2_with fail
   go_loopw [9] (fun x W => x = .int .i64 0 ∧ Below w.heap.size w W) (fun _ _ => 0)
   case atStart => exact ⟨rfl, hB⟩
   case round =>
    clear hB
    obtain ⟨rfl, hB⟩ := hrel
    go_wp2_with fail
    go_loopw [11] (fun x W => x = .int .i64 0 ∧ Below w.heap.size w W) (fun _ _ => 0)
    case atStart => exact ⟨rfl, hB⟩
    case round =>
     clear hB
     obtain ⟨rfl, hB⟩ := hrel
     go_wp2_with fail
     go_loopw [14] (fun x W => x = .int .i64 0 ∧ Below w.heap.size w W) (fun _ _ => 0)
     case atStart => exact ⟨rfl, hB⟩
     case round =>
      clear hB
      obtain ⟨rfl, hB⟩ := hrel
      go_wp2
      go_ret
      exact ⟨rfl, hB⟩
theorem flatParts_nil (w : World) : Calls Tryz.prog 103 #[.slice none 0 0] w fun e w' => e = .returned (.bool true) ∧ Below w.heap.size w w' := by
 have hB := Below.refl w.heap.size w
 go_enter Tryz.func103, Tryz.ntmps103
 go_wp2_with fail
 go_loopw [3] (fun x W => x = .int .i64 0 ∧ Below w.heap.size w W) (fun _ _ => 0)
 case atStart => exact ⟨rfl, hB⟩
 case round =>
  clear hB
  obtain ⟨rfl, hB⟩ := hrel
  obtain ⟨j0, hj, hj0, hj1, hj2⟩ := info_parts (show (Tryz.prog.info? 224).map (fun i => (i.zero, i.size, i.bytes)) = some (some (.slice none 0 0), 1, 24) from by kernel_rfl)
  obtain ⟨w1, hmk, _, hg1⟩ := run_make_own (P := Tryz.prog) wr wr.heap.size 89 224 j0 _ 1 Tryz.underlying89 hj hj0 hj1 .i64 .i64 0 (by rw [hj2]; decide) (by decide) (Nat.le_refl _)
  rw [Int.natCast_zero] at hmk
  have hb1 : Below wr.heap.size wr w1 := (Below.refl _ _).grown hg1 (Nat.le_refl _) (by simp)
  have hB := chain0 hB hb1
  clear hj hj0 hj1 hj2 hg1 hb1
  go_wp2_with fail
  go_loopw [6] (fun x W => x = .int .i64 0 ∧ Below w.heap.size w W) (fun _ _ => 0)
  case atStart => exact ⟨rfl, hB⟩
  case round =>
   clear hB
   obtain ⟨rfl, hB⟩ := hrel
   go_wp2_with fail
   go_loopw [9] (fun x W => x = .int .i64 0 ∧ Below w.heap.size w W) (fun _ _ => 0)
   case atStart => exact ⟨rfl, hB⟩
   case round =>
    clear hB
    obtain ⟨rfl, hB⟩ := hrel
    go_wp2_with fail
    go_loopw [11] (fun x W => x = .int .i64 0 ∧ Below w.heap.size w W) (fun _ _ => 0)
    case atStart => exact ⟨rfl, hB⟩
    case round =>
     clear hB
     obtain ⟨rfl, hB⟩ := hrel
     go_wp2_with fail
     go_loopw [14] (fun x W => x = .int .i64 0 ∧ Below w.heap.size w W) (fun _ _ => 0)
     case atStart => exact ⟨rfl, hB⟩
     case round =>
      clear hB
      obtain ⟨rfl, hB⟩ := hrel
      go_wp2
      go_ret
      exact ⟨rfl, hB⟩
theorem flatCommands_nil (w : World) : Calls Tryz.prog 104 #[.slice none 0 0] w fun e w' => e = .returned (.bool true) ∧ Below w.heap.size w w' := by
 have hB := Below.refl w.heap.size w
 go_enter Tryz.func104, Tryz.ntmps104
 go_wp2_with fail
 go_loopw [3] (fun x W => x = .int .i64 0 ∧ Below w.heap.size w W) (fun _ _ => 0)
 case atStart => exact ⟨rfl, hB⟩
 case round =>
  clear hB
  obtain ⟨rfl, hB⟩ := hrel
  obtain ⟨j0, hj, hj0, hj1, hj2⟩ := info_parts (show (Tryz.prog.info? 230).map (fun i => (i.zero, i.size, i.bytes)) = some (some (.slice none 0 0), 1, 24) from by kernel_rfl)
  obtain ⟨w1, hmk, _, hg1⟩ := run_make_own (P := Tryz.prog) wr wr.heap.size 90 230 j0 _ 1 Tryz.underlying90 hj hj0 hj1 .i64 .i64 0 (by rw [hj2]; decide) (by decide) (Nat.le_refl _)
  rw [Int.natCast_zero] at hmk
  have hb1 : Below wr.heap.size wr w1 := (Below.refl _ _).grown hg1 (Nat.le_refl _) (by simp)
  have hB := chain0 hB hb1
  clear hj hj0 hj1 hj2 hg1 hb1
  go_wp2_with fail
  go_loopw [6] (fun x W => x = .int .i64 0 ∧ Below w.heap.size w W) (fun _ _ => 0)
  case atStart => exact ⟨rfl, hB⟩
  case round =>
   clear hB
   obtain ⟨rfl, hB⟩ := hrel
   go_wp2_with fail
   go_loopw [9] (fun x W => x = .int .i64 0 ∧ Below w.heap.size w W) (fun _ _ => 0)
   case atStart => exact ⟨rfl, hB⟩
   case round =>
    clear hB
    obtain ⟨rfl, hB⟩ := hrel
    go_wp2_with fail
    go_loopw [11] (fun x W => x = .int .i64 0 ∧ Below w.heap.size w W) (fun _ _ => 0)
    case atStart => exact ⟨rfl, hB⟩
    case round =>
     clear hB
     obtain ⟨rfl, hB⟩ := hrel
     go_wp2_with fail
     go_loopw [14] (fun x W => x = .int .i64 0 ∧ Below w.heap.size w W) (fun _ _ => 0)
     case atStart => exact ⟨rfl, hB⟩
     case round =>
      clear hB
      obtain ⟨rfl, hB⟩ := hrel
      go_wp2
      go_ret
      exact ⟨rfl, hB⟩
end Go.Proofs.YtmhnndgnnpondaaGreatDoor
