/- parchmentkit: the flat functions of a nil list answer true. -/
import Derived.Test.YtafcphnafgfgkaaLp
namespace Go.Proofs.Ytafcphnafgfgkaa
open Go.RowKit Bm
set_option maxRecDepth 100000 in
set_option maxHeartbeats 2000000 in
theorem flatWords_nil (w : World) : Calls Try.prog 45 #[.slice none 0 0] w fun e w' => e = .returned (.bool true) ∧ Below w.heap.size w w' := by
  have hB := Below.refl w.heap.size w
  go_enter Try.func45, Try.ntmps45
  go_wp2_with fail
  go_loopw [3] (fun x W => x = .int .i64 0 ∧ Below w.heap.size w W) (fun _ _ => 0)
  case atStart => exact ⟨rfl, hB⟩
  case round =>
    clear hB
    obtain ⟨rfl, hB⟩ := hrel
    obtain ⟨j0, hj, hj0, hj1, hj2⟩ := info_parts (show (Try.prog.info? 109).map (fun i => (i.zero, i.size, i.bytes)) = some (some (.slice none 0 0), 1, 24) from by kernel_rfl)
    obtain ⟨w1, hmk, _, hg1⟩ := run_make_own (P := Try.prog) wr wr.heap.size 65 109 j0 _ 1 Try.underlying65 hj hj0 hj1 .i64 .i64 0 (by rw [hj2]; decide) (by decide) (Nat.le_refl _)
    rw [Int.natCast_zero] at hmk
    have hb1 : Below wr.heap.size wr w1 := (Below.refl _ _).grown hg1 (Nat.le_refl _) (by simp)
    have hB := chain0 hB hb1
    clear hj hj0 hj1 hj2 hg1 hb1
    go_wp2_with fail
    go_loopw [6] (fun x W => x = .int .i64 0 ∧ Below w.heap.size w W) (fun _ _ => 0)
    case atStart => exact ⟨rfl, hB⟩
    case round =>
      clear hB
      obtain ⟨rfl, hB⟩ := hrel
      go_wp2_with fail
      go_loopw [9] (fun x W => x = .int .i64 0 ∧ Below w.heap.size w W) (fun _ _ => 0)
      case atStart => exact ⟨rfl, hB⟩
      case round =>
        clear hB
        obtain ⟨rfl, hB⟩ := hrel
        go_wp2_with fail
        go_loopw [11] (fun x W => x = .int .i64 0 ∧ Below w.heap.size w W) (fun _ _ => 0)
        case atStart => exact ⟨rfl, hB⟩
        case round =>
          clear hB
          obtain ⟨rfl, hB⟩ := hrel
          go_wp2_with fail
          go_loopw [14] (fun x W => x = .int .i64 0 ∧ Below w.heap.size w W) (fun _ _ => 0)
          case atStart => exact ⟨rfl, hB⟩
          case round =>
            clear hB
            obtain ⟨rfl, hB⟩ := hrel
            go_wp2
            go_ret
            exact ⟨rfl, hB⟩
set_option maxRecDepth 100000 in
set_option maxHeartbeats 2000000 in
theorem flatInts_nil (w : World) : Calls Try.prog 46 #[.slice none 0 0] w fun e w' => e = .returned (.bool true) ∧ Below w.heap.size w w' := by
  have hB := Below.refl w.heap.size w
  go_enter Try.func46, Try.ntmps46
  go_wp2_with fail
  go_loopw [3] (fun x W => x = .int .i64 0 ∧ Below w.heap.size w W) (fun _ _ => 0)
  case atStart => exact ⟨rfl, hB⟩
  case round =>
    clear hB
    obtain ⟨rfl, hB⟩ := hrel
    obtain ⟨j0, hj, hj0, hj1, hj2⟩ := info_parts (show (Try.prog.info? 106).map (fun i => (i.zero, i.size, i.bytes)) = some (some (.slice none 0 0), 1, 24) from by kernel_rfl)
    obtain ⟨w1, hmk, _, hg1⟩ := run_make_own (P := Try.prog) wr wr.heap.size 66 106 j0 _ 1 Try.underlying66 hj hj0 hj1 .i64 .i64 0 (by rw [hj2]; decide) (by decide) (Nat.le_refl _)
    rw [Int.natCast_zero] at hmk
    have hb1 : Below wr.heap.size wr w1 := (Below.refl _ _).grown hg1 (Nat.le_refl _) (by simp)
    have hB := chain0 hB hb1
    clear hj hj0 hj1 hj2 hg1 hb1
    go_wp2_with fail
    go_loopw [6] (fun x W => x = .int .i64 0 ∧ Below w.heap.size w W) (fun _ _ => 0)
    case atStart => exact ⟨rfl, hB⟩
    case round =>
      clear hB
      obtain ⟨rfl, hB⟩ := hrel
      go_wp2_with fail
      go_loopw [9] (fun x W => x = .int .i64 0 ∧ Below w.heap.size w W) (fun _ _ => 0)
      case atStart => exact ⟨rfl, hB⟩
      case round =>
        clear hB
        obtain ⟨rfl, hB⟩ := hrel
        go_wp2_with fail
        go_loopw [11] (fun x W => x = .int .i64 0 ∧ Below w.heap.size w W) (fun _ _ => 0)
        case atStart => exact ⟨rfl, hB⟩
        case round =>
          clear hB
          obtain ⟨rfl, hB⟩ := hrel
          go_wp2_with fail
          go_loopw [14] (fun x W => x = .int .i64 0 ∧ Below w.heap.size w W) (fun _ _ => 0)
          case atStart => exact ⟨rfl, hB⟩
          case round =>
            clear hB
            obtain ⟨rfl, hB⟩ := hrel
            go_wp2
            go_ret
            exact ⟨rfl, hB⟩
set_option maxRecDepth 100000 in
set_option maxHeartbeats 2000000 in
theorem flatLongs_nil (w : World) : Calls Try.prog 47 #[.slice none 0 0] w fun e w' => e = .returned (.bool true) ∧ Below w.heap.size w w' := by
  have hB := Below.refl w.heap.size w
  go_enter Try.func47, Try.ntmps47
  go_wp2_with fail
  go_loopw [3] (fun x W => x = .int .i64 0 ∧ Below w.heap.size w W) (fun _ _ => 0)
  case atStart => exact ⟨rfl, hB⟩
  case round =>
    clear hB
    obtain ⟨rfl, hB⟩ := hrel
    obtain ⟨j0, hj, hj0, hj1, hj2⟩ := info_parts (show (Try.prog.info? 110).map (fun i => (i.zero, i.size, i.bytes)) = some (some (.slice none 0 0), 1, 24) from by kernel_rfl)
    obtain ⟨w1, hmk, _, hg1⟩ := run_make_own (P := Try.prog) wr wr.heap.size 67 110 j0 _ 1 Try.underlying67 hj hj0 hj1 .i64 .i64 0 (by rw [hj2]; decide) (by decide) (Nat.le_refl _)
    rw [Int.natCast_zero] at hmk
    have hb1 : Below wr.heap.size wr w1 := (Below.refl _ _).grown hg1 (Nat.le_refl _) (by simp)
    have hB := chain0 hB hb1
    clear hj hj0 hj1 hj2 hg1 hb1
    go_wp2_with fail
    go_loopw [6] (fun x W => x = .int .i64 0 ∧ Below w.heap.size w W) (fun _ _ => 0)
    case atStart => exact ⟨rfl, hB⟩
    case round =>
      clear hB
      obtain ⟨rfl, hB⟩ := hrel
      go_wp2_with fail
      go_loopw [9] (fun x W => x = .int .i64 0 ∧ Below w.heap.size w W) (fun _ _ => 0)
      case atStart => exact ⟨rfl, hB⟩
      case round =>
        clear hB
        obtain ⟨rfl, hB⟩ := hrel
        go_wp2_with fail
        go_loopw [11] (fun x W => x = .int .i64 0 ∧ Below w.heap.size w W) (fun _ _ => 0)
        case atStart => exact ⟨rfl, hB⟩
        case round =>
          clear hB
          obtain ⟨rfl, hB⟩ := hrel
          go_wp2_with fail
          go_loopw [14] (fun x W => x = .int .i64 0 ∧ Below w.heap.size w W) (fun _ _ => 0)
          case atStart => exact ⟨rfl, hB⟩
          case round =>
            clear hB
            obtain ⟨rfl, hB⟩ := hrel
            go_wp2
            go_ret
            exact ⟨rfl, hB⟩
set_option maxRecDepth 100000 in
set_option maxHeartbeats 2000000 in
theorem flatTexts_nil (w : World) : Calls Try.prog 48 #[.slice none 0 0] w fun e w' => e = .returned (.bool true) ∧ Below w.heap.size w w' := by
  have hB := Below.refl w.heap.size w
  go_enter Try.func48, Try.ntmps48
  go_wp2_with fail
  go_loopw [3] (fun x W => x = .int .i64 0 ∧ Below w.heap.size w W) (fun _ _ => 0)
  case atStart => exact ⟨rfl, hB⟩
  case round =>
    clear hB
    obtain ⟨rfl, hB⟩ := hrel
    obtain ⟨j0, hj, hj0, hj1, hj2⟩ := info_parts (show (Try.prog.info? 111).map (fun i => (i.zero, i.size, i.bytes)) = some (some (.slice none 0 0), 1, 24) from by kernel_rfl)
    obtain ⟨w1, hmk, _, hg1⟩ := run_make_own (P := Try.prog) wr wr.heap.size 68 111 j0 _ 1 Try.underlying68 hj hj0 hj1 .i64 .i64 0 (by rw [hj2]; decide) (by decide) (Nat.le_refl _)
    rw [Int.natCast_zero] at hmk
    have hb1 : Below wr.heap.size wr w1 := (Below.refl _ _).grown hg1 (Nat.le_refl _) (by simp)
    have hB := chain0 hB hb1
    clear hj hj0 hj1 hj2 hg1 hb1
    go_wp2_with fail
    go_loopw [6] (fun x W => x = .int .i64 0 ∧ Below w.heap.size w W) (fun _ _ => 0)
    case atStart => exact ⟨rfl, hB⟩
    case round =>
      clear hB
      obtain ⟨rfl, hB⟩ := hrel
      go_wp2_with fail
      go_loopw [9] (fun x W => x = .int .i64 0 ∧ Below w.heap.size w W) (fun _ _ => 0)
      case atStart => exact ⟨rfl, hB⟩
      case round =>
        clear hB
        obtain ⟨rfl, hB⟩ := hrel
        go_wp2_with fail
        go_loopw [11] (fun x W => x = .int .i64 0 ∧ Below w.heap.size w W) (fun _ _ => 0)
        case atStart => exact ⟨rfl, hB⟩
        case round =>
          clear hB
          obtain ⟨rfl, hB⟩ := hrel
          go_wp2_with fail
          go_loopw [14] (fun x W => x = .int .i64 0 ∧ Below w.heap.size w W) (fun _ _ => 0)
          case atStart => exact ⟨rfl, hB⟩
          case round =>
            clear hB
            obtain ⟨rfl, hB⟩ := hrel
            go_wp2
            go_ret
            exact ⟨rfl, hB⟩
set_option maxRecDepth 100000 in
set_option maxHeartbeats 2000000 in
theorem flatNodes_nil (w : World) : Calls Try.prog 50 #[.slice none 0 0] w fun e w' => e = .returned (.bool true) ∧ Below w.heap.size w w' := by
  have hB := Below.refl w.heap.size w
  go_enter Try.func50, Try.ntmps50
  go_wp2_with fail
  go_loopw [3] (fun x W => x = .int .i64 0 ∧ Below w.heap.size w W) (fun _ _ => 0)
  case atStart => exact ⟨rfl, hB⟩
  case round =>
    clear hB
    obtain ⟨rfl, hB⟩ := hrel
    obtain ⟨j0, hj, hj0, hj1, hj2⟩ := info_parts (show (Try.prog.info? 113).map (fun i => (i.zero, i.size, i.bytes)) = some (some (.slice none 0 0), 1, 24) from by kernel_rfl)
    obtain ⟨w1, hmk, _, hg1⟩ := run_make_own (P := Try.prog) wr wr.heap.size 69 113 j0 _ 1 Try.underlying69 hj hj0 hj1 .i64 .i64 0 (by rw [hj2]; decide) (by decide) (Nat.le_refl _)
    rw [Int.natCast_zero] at hmk
    have hb1 : Below wr.heap.size wr w1 := (Below.refl _ _).grown hg1 (Nat.le_refl _) (by simp)
    have hB := chain0 hB hb1
    clear hj hj0 hj1 hj2 hg1 hb1
    go_wp2_with fail
    go_loopw [6] (fun x W => x = .int .i64 0 ∧ Below w.heap.size w W) (fun _ _ => 0)
    case atStart => exact ⟨rfl, hB⟩
    case round =>
      clear hB
      obtain ⟨rfl, hB⟩ := hrel
      go_wp2_with fail
      go_loopw [9] (fun x W => x = .int .i64 0 ∧ Below w.heap.size w W) (fun _ _ => 0)
      case atStart => exact ⟨rfl, hB⟩
      case round =>
        clear hB
        obtain ⟨rfl, hB⟩ := hrel
        go_wp2_with fail
        go_loopw [11] (fun x W => x = .int .i64 0 ∧ Below w.heap.size w W) (fun _ _ => 0)
        case atStart => exact ⟨rfl, hB⟩
        case round =>
          clear hB
          obtain ⟨rfl, hB⟩ := hrel
          go_wp2_with fail
          go_loopw [14] (fun x W => x = .int .i64 0 ∧ Below w.heap.size w W) (fun _ _ => 0)
          case atStart => exact ⟨rfl, hB⟩
          case round =>
            clear hB
            obtain ⟨rfl, hB⟩ := hrel
            go_wp2
            go_ret
            exact ⟨rfl, hB⟩
set_option maxRecDepth 100000 in
set_option maxHeartbeats 2000000 in
theorem flatFates_nil (w : World) : Calls Try.prog 51 #[.slice none 0 0] w fun e w' => e = .returned (.bool true) ∧ Below w.heap.size w w' := by
  have hB := Below.refl w.heap.size w
  go_enter Try.func51, Try.ntmps51
  go_wp2_with fail
  go_loopw [3] (fun x W => x = .int .i64 0 ∧ Below w.heap.size w W) (fun _ _ => 0)
  case atStart => exact ⟨rfl, hB⟩
  case round =>
    clear hB
    obtain ⟨rfl, hB⟩ := hrel
    obtain ⟨j0, hj, hj0, hj1, hj2⟩ := info_parts (show (Try.prog.info? 118).map (fun i => (i.zero, i.size, i.bytes)) = some (some (.slice none 0 0), 1, 24) from by kernel_rfl)
    obtain ⟨w1, hmk, _, hg1⟩ := run_make_own (P := Try.prog) wr wr.heap.size 70 118 j0 _ 1 Try.underlying70 hj hj0 hj1 .i64 .i64 0 (by rw [hj2]; decide) (by decide) (Nat.le_refl _)
    rw [Int.natCast_zero] at hmk
    have hb1 : Below wr.heap.size wr w1 := (Below.refl _ _).grown hg1 (Nat.le_refl _) (by simp)
    have hB := chain0 hB hb1
    clear hj hj0 hj1 hj2 hg1 hb1
    go_wp2_with fail
    go_loopw [6] (fun x W => x = .int .i64 0 ∧ Below w.heap.size w W) (fun _ _ => 0)
    case atStart => exact ⟨rfl, hB⟩
    case round =>
      clear hB
      obtain ⟨rfl, hB⟩ := hrel
      go_wp2_with fail
      go_loopw [9] (fun x W => x = .int .i64 0 ∧ Below w.heap.size w W) (fun _ _ => 0)
      case atStart => exact ⟨rfl, hB⟩
      case round =>
        clear hB
        obtain ⟨rfl, hB⟩ := hrel
        go_wp2_with fail
        go_loopw [11] (fun x W => x = .int .i64 0 ∧ Below w.heap.size w W) (fun _ _ => 0)
        case atStart => exact ⟨rfl, hB⟩
        case round =>
          clear hB
          obtain ⟨rfl, hB⟩ := hrel
          go_wp2_with fail
          go_loopw [14] (fun x W => x = .int .i64 0 ∧ Below w.heap.size w W) (fun _ _ => 0)
          case atStart => exact ⟨rfl, hB⟩
          case round =>
            clear hB
            obtain ⟨rfl, hB⟩ := hrel
            go_wp2
            go_ret
            exact ⟨rfl, hB⟩
set_option maxRecDepth 100000 in
set_option maxHeartbeats 2000000 in
theorem flatSpans_nil (w : World) : Calls Try.prog 52 #[.slice none 0 0] w fun e w' => e = .returned (.bool true) ∧ Below w.heap.size w w' := by
  have hB := Below.refl w.heap.size w
  go_enter Try.func52, Try.ntmps52
  go_wp2_with fail
  go_loopw [3] (fun x W => x = .int .i64 0 ∧ Below w.heap.size w W) (fun _ _ => 0)
  case atStart => exact ⟨rfl, hB⟩
  case round =>
    clear hB
    obtain ⟨rfl, hB⟩ := hrel
    obtain ⟨j0, hj, hj0, hj1, hj2⟩ := info_parts (show (Try.prog.info? 122).map (fun i => (i.zero, i.size, i.bytes)) = some (some (.slice none 0 0), 1, 24) from by kernel_rfl)
    obtain ⟨w1, hmk, _, hg1⟩ := run_make_own (P := Try.prog) wr wr.heap.size 71 122 j0 _ 1 Try.underlying71 hj hj0 hj1 .i64 .i64 0 (by rw [hj2]; decide) (by decide) (Nat.le_refl _)
    rw [Int.natCast_zero] at hmk
    have hb1 : Below wr.heap.size wr w1 := (Below.refl _ _).grown hg1 (Nat.le_refl _) (by simp)
    have hB := chain0 hB hb1
    clear hj hj0 hj1 hj2 hg1 hb1
    go_wp2_with fail
    go_loopw [6] (fun x W => x = .int .i64 0 ∧ Below w.heap.size w W) (fun _ _ => 0)
    case atStart => exact ⟨rfl, hB⟩
    case round =>
      clear hB
      obtain ⟨rfl, hB⟩ := hrel
      go_wp2_with fail
      go_loopw [9] (fun x W => x = .int .i64 0 ∧ Below w.heap.size w W) (fun _ _ => 0)
      case atStart => exact ⟨rfl, hB⟩
      case round =>
        clear hB
        obtain ⟨rfl, hB⟩ := hrel
        go_wp2_with fail
        go_loopw [11] (fun x W => x = .int .i64 0 ∧ Below w.heap.size w W) (fun _ _ => 0)
        case atStart => exact ⟨rfl, hB⟩
        case round =>
          clear hB
          obtain ⟨rfl, hB⟩ := hrel
          go_wp2_with fail
          go_loopw [14] (fun x W => x = .int .i64 0 ∧ Below w.heap.size w W) (fun _ _ => 0)
          case atStart => exact ⟨rfl, hB⟩
          case round =>
            clear hB
            obtain ⟨rfl, hB⟩ := hrel
            go_wp2
            go_ret
            exact ⟨rfl, hB⟩
set_option maxRecDepth 100000 in
set_option maxHeartbeats 2000000 in
theorem flatDirties_nil (w : World) : Calls Try.prog 53 #[.slice none 0 0] w fun e w' => e = .returned (.bool true) ∧ Below w.heap.size w w' := by
  have hB := Below.refl w.heap.size w
  go_enter Try.func53, Try.ntmps53
  go_wp2_with fail
  go_loopw [3] (fun x W => x = .int .i64 0 ∧ Below w.heap.size w W) (fun _ _ => 0)
  case atStart => exact ⟨rfl, hB⟩
  case round =>
    clear hB
    obtain ⟨rfl, hB⟩ := hrel
    obtain ⟨j0, hj, hj0, hj1, hj2⟩ := info_parts (show (Try.prog.info? 127).map (fun i => (i.zero, i.size, i.bytes)) = some (some (.slice none 0 0), 1, 24) from by kernel_rfl)
    obtain ⟨w1, hmk, _, hg1⟩ := run_make_own (P := Try.prog) wr wr.heap.size 72 127 j0 _ 1 Try.underlying72 hj hj0 hj1 .i64 .i64 0 (by rw [hj2]; decide) (by decide) (Nat.le_refl _)
    rw [Int.natCast_zero] at hmk
    have hb1 : Below wr.heap.size wr w1 := (Below.refl _ _).grown hg1 (Nat.le_refl _) (by simp)
    have hB := chain0 hB hb1
    clear hj hj0 hj1 hj2 hg1 hb1
    go_wp2_with fail
    go_loopw [6] (fun x W => x = .int .i64 0 ∧ Below w.heap.size w W) (fun _ _ => 0)
    case atStart => exact ⟨rfl, hB⟩
    case round =>
      clear hB
      obtain ⟨rfl, hB⟩ := hrel
      go_wp2_with fail
      go_loopw [9] (fun x W => x = .int .i64 0 ∧ Below w.heap.size w W) (fun _ _ => 0)
      case atStart => exact ⟨rfl, hB⟩
      case round =>
        clear hB
        obtain ⟨rfl, hB⟩ := hrel
        go_wp2_with fail
        go_loopw [11] (fun x W => x = .int .i64 0 ∧ Below w.heap.size w W) (fun _ _ => 0)
        case atStart => exact ⟨rfl, hB⟩
        case round =>
          clear hB
          obtain ⟨rfl, hB⟩ := hrel
          go_wp2_with fail
          go_loopw [14] (fun x W => x = .int .i64 0 ∧ Below w.heap.size w W) (fun _ _ => 0)
          case atStart => exact ⟨rfl, hB⟩
          case round =>
            clear hB
            obtain ⟨rfl, hB⟩ := hrel
            go_wp2
            go_ret
            exact ⟨rfl, hB⟩
set_option maxRecDepth 100000 in
set_option maxHeartbeats 2000000 in
theorem flatRecords_nil (w : World) : Calls Try.prog 54 #[.slice none 0 0] w fun e w' => e = .returned (.bool true) ∧ Below w.heap.size w w' := by
  have hB := Below.refl w.heap.size w
  go_enter Try.func54, Try.ntmps54
  go_wp2_with fail
  go_loopw [3] (fun x W => x = .int .i64 0 ∧ Below w.heap.size w W) (fun _ _ => 0)
  case atStart => exact ⟨rfl, hB⟩
  case round =>
    clear hB
    obtain ⟨rfl, hB⟩ := hrel
    obtain ⟨j0, hj, hj0, hj1, hj2⟩ := info_parts (show (Try.prog.info? 131).map (fun i => (i.zero, i.size, i.bytes)) = some (some (.slice none 0 0), 1, 24) from by kernel_rfl)
    obtain ⟨w1, hmk, _, hg1⟩ := run_make_own (P := Try.prog) wr wr.heap.size 73 131 j0 _ 1 Try.underlying73 hj hj0 hj1 .i64 .i64 0 (by rw [hj2]; decide) (by decide) (Nat.le_refl _)
    rw [Int.natCast_zero] at hmk
    have hb1 : Below wr.heap.size wr w1 := (Below.refl _ _).grown hg1 (Nat.le_refl _) (by simp)
    have hB := chain0 hB hb1
    clear hj hj0 hj1 hj2 hg1 hb1
    go_wp2_with fail
    go_loopw [6] (fun x W => x = .int .i64 0 ∧ Below w.heap.size w W) (fun _ _ => 0)
    case atStart => exact ⟨rfl, hB⟩
    case round =>
      clear hB
      obtain ⟨rfl, hB⟩ := hrel
      go_wp2_with fail
      go_loopw [9] (fun x W => x = .int .i64 0 ∧ Below w.heap.size w W) (fun _ _ => 0)
      case atStart => exact ⟨rfl, hB⟩
      case round =>
        clear hB
        obtain ⟨rfl, hB⟩ := hrel
        go_wp2_with fail
        go_loopw [11] (fun x W => x = .int .i64 0 ∧ Below w.heap.size w W) (fun _ _ => 0)
        case atStart => exact ⟨rfl, hB⟩
        case round =>
          clear hB
          obtain ⟨rfl, hB⟩ := hrel
          go_wp2_with fail
          go_loopw [14] (fun x W => x = .int .i64 0 ∧ Below w.heap.size w W) (fun _ _ => 0)
          case atStart => exact ⟨rfl, hB⟩
          case round =>
            clear hB
            obtain ⟨rfl, hB⟩ := hrel
            go_wp2
            go_ret
            exact ⟨rfl, hB⟩
set_option maxRecDepth 100000 in
set_option maxHeartbeats 2000000 in
theorem flatCells_nil (w : World) : Calls Try.prog 55 #[.slice none 0 0] w fun e w' => e = .returned (.bool true) ∧ Below w.heap.size w w' := by
  have hB := Below.refl w.heap.size w
  go_enter Try.func55, Try.ntmps55
  go_wp2_with fail
  go_loopw [3] (fun x W => x = .int .i64 0 ∧ Below w.heap.size w W) (fun _ _ => 0)
  case atStart => exact ⟨rfl, hB⟩
  case round =>
    clear hB
    obtain ⟨rfl, hB⟩ := hrel
    obtain ⟨j0, hj, hj0, hj1, hj2⟩ := info_parts (show (Try.prog.info? 137).map (fun i => (i.zero, i.size, i.bytes)) = some (some (.slice none 0 0), 1, 24) from by kernel_rfl)
    obtain ⟨w1, hmk, _, hg1⟩ := run_make_own (P := Try.prog) wr wr.heap.size 74 137 j0 _ 1 Try.underlying74 hj hj0 hj1 .i64 .i64 0 (by rw [hj2]; decide) (by decide) (Nat.le_refl _)
    rw [Int.natCast_zero] at hmk
    have hb1 : Below wr.heap.size wr w1 := (Below.refl _ _).grown hg1 (Nat.le_refl _) (by simp)
    have hB := chain0 hB hb1
    clear hj hj0 hj1 hj2 hg1 hb1
    go_wp2_with fail
    go_loopw [6] (fun x W => x = .int .i64 0 ∧ Below w.heap.size w W) (fun _ _ => 0)
    case atStart => exact ⟨rfl, hB⟩
    case round =>
      clear hB
      obtain ⟨rfl, hB⟩ := hrel
      go_wp2_with fail
      go_loopw [9] (fun x W => x = .int .i64 0 ∧ Below w.heap.size w W) (fun _ _ => 0)
      case atStart => exact ⟨rfl, hB⟩
      case round =>
        clear hB
        obtain ⟨rfl, hB⟩ := hrel
        go_wp2_with fail
        go_loopw [11] (fun x W => x = .int .i64 0 ∧ Below w.heap.size w W) (fun _ _ => 0)
        case atStart => exact ⟨rfl, hB⟩
        case round =>
          clear hB
          obtain ⟨rfl, hB⟩ := hrel
          go_wp2_with fail
          go_loopw [14] (fun x W => x = .int .i64 0 ∧ Below w.heap.size w W) (fun _ _ => 0)
          case atStart => exact ⟨rfl, hB⟩
          case round =>
            clear hB
            obtain ⟨rfl, hB⟩ := hrel
            go_wp2
            go_ret
            exact ⟨rfl, hB⟩
set_option maxRecDepth 100000 in
set_option maxHeartbeats 2000000 in
theorem flatHelds_nil (w : World) : Calls Try.prog 56 #[.slice none 0 0] w fun e w' => e = .returned (.bool true) ∧ Below w.heap.size w w' := by
  have hB := Below.refl w.heap.size w
  go_enter Try.func56, Try.ntmps56
  go_wp2_with fail
  go_loopw [3] (fun x W => x = .int .i64 0 ∧ Below w.heap.size w W) (fun _ _ => 0)
  case atStart => exact ⟨rfl, hB⟩
  case round =>
    clear hB
    obtain ⟨rfl, hB⟩ := hrel
    obtain ⟨j0, hj, hj0, hj1, hj2⟩ := info_parts (show (Try.prog.info? 142).map (fun i => (i.zero, i.size, i.bytes)) = some (some (.slice none 0 0), 1, 24) from by kernel_rfl)
    obtain ⟨w1, hmk, _, hg1⟩ := run_make_own (P := Try.prog) wr wr.heap.size 75 142 j0 _ 1 Try.underlying75 hj hj0 hj1 .i64 .i64 0 (by rw [hj2]; decide) (by decide) (Nat.le_refl _)
    rw [Int.natCast_zero] at hmk
    have hb1 : Below wr.heap.size wr w1 := (Below.refl _ _).grown hg1 (Nat.le_refl _) (by simp)
    have hB := chain0 hB hb1
    clear hj hj0 hj1 hj2 hg1 hb1
    go_wp2_with fail
    go_loopw [6] (fun x W => x = .int .i64 0 ∧ Below w.heap.size w W) (fun _ _ => 0)
    case atStart => exact ⟨rfl, hB⟩
    case round =>
      clear hB
      obtain ⟨rfl, hB⟩ := hrel
      go_wp2_with fail
      go_loopw [9] (fun x W => x = .int .i64 0 ∧ Below w.heap.size w W) (fun _ _ => 0)
      case atStart => exact ⟨rfl, hB⟩
      case round =>
        clear hB
        obtain ⟨rfl, hB⟩ := hrel
        go_wp2_with fail
        go_loopw [11] (fun x W => x = .int .i64 0 ∧ Below w.heap.size w W) (fun _ _ => 0)
        case atStart => exact ⟨rfl, hB⟩
        case round =>
          clear hB
          obtain ⟨rfl, hB⟩ := hrel
          go_wp2_with fail
          go_loopw [14] (fun x W => x = .int .i64 0 ∧ Below w.heap.size w W) (fun _ _ => 0)
          case atStart => exact ⟨rfl, hB⟩
          case round =>
            clear hB
            obtain ⟨rfl, hB⟩ := hrel
            go_wp2
            go_ret
            exact ⟨rfl, hB⟩
set_option maxRecDepth 100000 in
set_option maxHeartbeats 2000000 in
theorem flatTokens_nil (w : World) : Calls Try.prog 57 #[.slice none 0 0] w fun e w' => e = .returned (.bool true) ∧ Below w.heap.size w w' := by
  have hB := Below.refl w.heap.size w
  go_enter Try.func57, Try.ntmps57
  go_wp2_with fail
  go_loopw [3] (fun x W => x = .int .i64 0 ∧ Below w.heap.size w W) (fun _ _ => 0)
  case atStart => exact ⟨rfl, hB⟩
  case round =>
    clear hB
    obtain ⟨rfl, hB⟩ := hrel
    obtain ⟨j0, hj, hj0, hj1, hj2⟩ := info_parts (show (Try.prog.info? 147).map (fun i => (i.zero, i.size, i.bytes)) = some (some (.slice none 0 0), 1, 24) from by kernel_rfl)
    obtain ⟨w1, hmk, _, hg1⟩ := run_make_own (P := Try.prog) wr wr.heap.size 76 147 j0 _ 1 Try.underlying76 hj hj0 hj1 .i64 .i64 0 (by rw [hj2]; decide) (by decide) (Nat.le_refl _)
    rw [Int.natCast_zero] at hmk
    have hb1 : Below wr.heap.size wr w1 := (Below.refl _ _).grown hg1 (Nat.le_refl _) (by simp)
    have hB := chain0 hB hb1
    clear hj hj0 hj1 hj2 hg1 hb1
    go_wp2_with fail
    go_loopw [6] (fun x W => x = .int .i64 0 ∧ Below w.heap.size w W) (fun _ _ => 0)
    case atStart => exact ⟨rfl, hB⟩
    case round =>
      clear hB
      obtain ⟨rfl, hB⟩ := hrel
      go_wp2_with fail
      go_loopw [9] (fun x W => x = .int .i64 0 ∧ Below w.heap.size w W) (fun _ _ => 0)
      case atStart => exact ⟨rfl, hB⟩
      case round =>
        clear hB
        obtain ⟨rfl, hB⟩ := hrel
        go_wp2_with fail
        go_loopw [11] (fun x W => x = .int .i64 0 ∧ Below w.heap.size w W) (fun _ _ => 0)
        case atStart => exact ⟨rfl, hB⟩
        case round =>
          clear hB
          obtain ⟨rfl, hB⟩ := hrel
          go_wp2_with fail
          go_loopw [14] (fun x W => x = .int .i64 0 ∧ Below w.heap.size w W) (fun _ _ => 0)
          case atStart => exact ⟨rfl, hB⟩
          case round =>
            clear hB
            obtain ⟨rfl, hB⟩ := hrel
            go_wp2
            go_ret
            exact ⟨rfl, hB⟩
set_option maxRecDepth 100000 in
set_option maxHeartbeats 2000000 in
theorem flatExprs_nil (w : World) : Calls Try.prog 58 #[.slice none 0 0] w fun e w' => e = .returned (.bool true) ∧ Below w.heap.size w w' := by
  have hB := Below.refl w.heap.size w
  go_enter Try.func58, Try.ntmps58
  go_wp2_with fail
  go_loopw [3] (fun x W => x = .int .i64 0 ∧ Below w.heap.size w W) (fun _ _ => 0)
  case atStart => exact ⟨rfl, hB⟩
  case round =>
    clear hB
    obtain ⟨rfl, hB⟩ := hrel
    obtain ⟨j0, hj, hj0, hj1, hj2⟩ := info_parts (show (Try.prog.info? 152).map (fun i => (i.zero, i.size, i.bytes)) = some (some (.slice none 0 0), 1, 24) from by kernel_rfl)
    obtain ⟨w1, hmk, _, hg1⟩ := run_make_own (P := Try.prog) wr wr.heap.size 77 152 j0 _ 1 Try.underlying77 hj hj0 hj1 .i64 .i64 0 (by rw [hj2]; decide) (by decide) (Nat.le_refl _)
    rw [Int.natCast_zero] at hmk
    have hb1 : Below wr.heap.size wr w1 := (Below.refl _ _).grown hg1 (Nat.le_refl _) (by simp)
    have hB := chain0 hB hb1
    clear hj hj0 hj1 hj2 hg1 hb1
    go_wp2_with fail
    go_loopw [6] (fun x W => x = .int .i64 0 ∧ Below w.heap.size w W) (fun _ _ => 0)
    case atStart => exact ⟨rfl, hB⟩
    case round =>
      clear hB
      obtain ⟨rfl, hB⟩ := hrel
      go_wp2_with fail
      go_loopw [9] (fun x W => x = .int .i64 0 ∧ Below w.heap.size w W) (fun _ _ => 0)
      case atStart => exact ⟨rfl, hB⟩
      case round =>
        clear hB
        obtain ⟨rfl, hB⟩ := hrel
        go_wp2_with fail
        go_loopw [11] (fun x W => x = .int .i64 0 ∧ Below w.heap.size w W) (fun _ _ => 0)
        case atStart => exact ⟨rfl, hB⟩
        case round =>
          clear hB
          obtain ⟨rfl, hB⟩ := hrel
          go_wp2_with fail
          go_loopw [14] (fun x W => x = .int .i64 0 ∧ Below w.heap.size w W) (fun _ _ => 0)
          case atStart => exact ⟨rfl, hB⟩
          case round =>
            clear hB
            obtain ⟨rfl, hB⟩ := hrel
            go_wp2
            go_ret
            exact ⟨rfl, hB⟩
set_option maxRecDepth 100000 in
set_option maxHeartbeats 2000000 in
theorem flatItems_nil (w : World) : Calls Try.prog 59 #[.slice none 0 0] w fun e w' => e = .returned (.bool true) ∧ Below w.heap.size w w' := by
  have hB := Below.refl w.heap.size w
  go_enter Try.func59, Try.ntmps59
  go_wp2_with fail
  go_loopw [3] (fun x W => x = .int .i64 0 ∧ Below w.heap.size w W) (fun _ _ => 0)
  case atStart => exact ⟨rfl, hB⟩
  case round =>
    clear hB
    obtain ⟨rfl, hB⟩ := hrel
    obtain ⟨j0, hj, hj0, hj1, hj2⟩ := info_parts (show (Try.prog.info? 160).map (fun i => (i.zero, i.size, i.bytes)) = some (some (.slice none 0 0), 1, 24) from by kernel_rfl)
    obtain ⟨w1, hmk, _, hg1⟩ := run_make_own (P := Try.prog) wr wr.heap.size 78 160 j0 _ 1 Try.underlying78 hj hj0 hj1 .i64 .i64 0 (by rw [hj2]; decide) (by decide) (Nat.le_refl _)
    rw [Int.natCast_zero] at hmk
    have hb1 : Below wr.heap.size wr w1 := (Below.refl _ _).grown hg1 (Nat.le_refl _) (by simp)
    have hB := chain0 hB hb1
    clear hj hj0 hj1 hj2 hg1 hb1
    go_wp2_with fail
    go_loopw [6] (fun x W => x = .int .i64 0 ∧ Below w.heap.size w W) (fun _ _ => 0)
    case atStart => exact ⟨rfl, hB⟩
    case round =>
      clear hB
      obtain ⟨rfl, hB⟩ := hrel
      go_wp2_with fail
      go_loopw [9] (fun x W => x = .int .i64 0 ∧ Below w.heap.size w W) (fun _ _ => 0)
      case atStart => exact ⟨rfl, hB⟩
      case round =>
        clear hB
        obtain ⟨rfl, hB⟩ := hrel
        go_wp2_with fail
        go_loopw [11] (fun x W => x = .int .i64 0 ∧ Below w.heap.size w W) (fun _ _ => 0)
        case atStart => exact ⟨rfl, hB⟩
        case round =>
          clear hB
          obtain ⟨rfl, hB⟩ := hrel
          go_wp2_with fail
          go_loopw [14] (fun x W => x = .int .i64 0 ∧ Below w.heap.size w W) (fun _ _ => 0)
          case atStart => exact ⟨rfl, hB⟩
          case round =>
            clear hB
            obtain ⟨rfl, hB⟩ := hrel
            go_wp2
            go_ret
            exact ⟨rfl, hB⟩
set_option maxRecDepth 100000 in
set_option maxHeartbeats 2000000 in
theorem flatShowns_nil (w : World) : Calls Try.prog 60 #[.slice none 0 0] w fun e w' => e = .returned (.bool true) ∧ Below w.heap.size w w' := by
  have hB := Below.refl w.heap.size w
  go_enter Try.func60, Try.ntmps60
  go_wp2_with fail
  go_loopw [3] (fun x W => x = .int .i64 0 ∧ Below w.heap.size w W) (fun _ _ => 0)
  case atStart => exact ⟨rfl, hB⟩
  case round =>
    clear hB
    obtain ⟨rfl, hB⟩ := hrel
    obtain ⟨j0, hj, hj0, hj1, hj2⟩ := info_parts (show (Try.prog.info? 165).map (fun i => (i.zero, i.size, i.bytes)) = some (some (.slice none 0 0), 1, 24) from by kernel_rfl)
    obtain ⟨w1, hmk, _, hg1⟩ := run_make_own (P := Try.prog) wr wr.heap.size 79 165 j0 _ 1 Try.underlying79 hj hj0 hj1 .i64 .i64 0 (by rw [hj2]; decide) (by decide) (Nat.le_refl _)
    rw [Int.natCast_zero] at hmk
    have hb1 : Below wr.heap.size wr w1 := (Below.refl _ _).grown hg1 (Nat.le_refl _) (by simp)
    have hB := chain0 hB hb1
    clear hj hj0 hj1 hj2 hg1 hb1
    go_wp2_with fail
    go_loopw [6] (fun x W => x = .int .i64 0 ∧ Below w.heap.size w W) (fun _ _ => 0)
    case atStart => exact ⟨rfl, hB⟩
    case round =>
      clear hB
      obtain ⟨rfl, hB⟩ := hrel
      go_wp2_with fail
      go_loopw [9] (fun x W => x = .int .i64 0 ∧ Below w.heap.size w W) (fun _ _ => 0)
      case atStart => exact ⟨rfl, hB⟩
      case round =>
        clear hB
        obtain ⟨rfl, hB⟩ := hrel
        go_wp2_with fail
        go_loopw [11] (fun x W => x = .int .i64 0 ∧ Below w.heap.size w W) (fun _ _ => 0)
        case atStart => exact ⟨rfl, hB⟩
        case round =>
          clear hB
          obtain ⟨rfl, hB⟩ := hrel
          go_wp2_with fail
          go_loopw [14] (fun x W => x = .int .i64 0 ∧ Below w.heap.size w W) (fun _ _ => 0)
          case atStart => exact ⟨rfl, hB⟩
          case round =>
            clear hB
            obtain ⟨rfl, hB⟩ := hrel
            go_wp2
            go_ret
            exact ⟨rfl, hB⟩
set_option maxRecDepth 100000 in
set_option maxHeartbeats 2000000 in
theorem flatParts_nil (w : World) : Calls Try.prog 61 #[.slice none 0 0] w fun e w' => e = .returned (.bool true) ∧ Below w.heap.size w w' := by
  have hB := Below.refl w.heap.size w
  go_enter Try.func61, Try.ntmps61
  go_wp2_with fail
  go_loopw [3] (fun x W => x = .int .i64 0 ∧ Below w.heap.size w W) (fun _ _ => 0)
  case atStart => exact ⟨rfl, hB⟩
  case round =>
    clear hB
    obtain ⟨rfl, hB⟩ := hrel
    obtain ⟨j0, hj, hj0, hj1, hj2⟩ := info_parts (show (Try.prog.info? 169).map (fun i => (i.zero, i.size, i.bytes)) = some (some (.slice none 0 0), 1, 24) from by kernel_rfl)
    obtain ⟨w1, hmk, _, hg1⟩ := run_make_own (P := Try.prog) wr wr.heap.size 80 169 j0 _ 1 Try.underlying80 hj hj0 hj1 .i64 .i64 0 (by rw [hj2]; decide) (by decide) (Nat.le_refl _)
    rw [Int.natCast_zero] at hmk
    have hb1 : Below wr.heap.size wr w1 := (Below.refl _ _).grown hg1 (Nat.le_refl _) (by simp)
    have hB := chain0 hB hb1
    clear hj hj0 hj1 hj2 hg1 hb1
    go_wp2_with fail
    go_loopw [6] (fun x W => x = .int .i64 0 ∧ Below w.heap.size w W) (fun _ _ => 0)
    case atStart => exact ⟨rfl, hB⟩
    case round =>
      clear hB
      obtain ⟨rfl, hB⟩ := hrel
      go_wp2_with fail
      go_loopw [9] (fun x W => x = .int .i64 0 ∧ Below w.heap.size w W) (fun _ _ => 0)
      case atStart => exact ⟨rfl, hB⟩
      case round =>
        clear hB
        obtain ⟨rfl, hB⟩ := hrel
        go_wp2_with fail
        go_loopw [11] (fun x W => x = .int .i64 0 ∧ Below w.heap.size w W) (fun _ _ => 0)
        case atStart => exact ⟨rfl, hB⟩
        case round =>
          clear hB
          obtain ⟨rfl, hB⟩ := hrel
          go_wp2_with fail
          go_loopw [14] (fun x W => x = .int .i64 0 ∧ Below w.heap.size w W) (fun _ _ => 0)
          case atStart => exact ⟨rfl, hB⟩
          case round =>
            clear hB
            obtain ⟨rfl, hB⟩ := hrel
            go_wp2
            go_ret
            exact ⟨rfl, hB⟩
set_option maxRecDepth 100000 in
set_option maxHeartbeats 2000000 in
theorem flatCommands_nil (w : World) : Calls Try.prog 62 #[.slice none 0 0] w fun e w' => e = .returned (.bool true) ∧ Below w.heap.size w w' := by
  have hB := Below.refl w.heap.size w
  go_enter Try.func62, Try.ntmps62
  go_wp2_with fail
  go_loopw [3] (fun x W => x = .int .i64 0 ∧ Below w.heap.size w W) (fun _ _ => 0)
  case atStart => exact ⟨rfl, hB⟩
  case round =>
    clear hB
    obtain ⟨rfl, hB⟩ := hrel
    obtain ⟨j0, hj, hj0, hj1, hj2⟩ := info_parts (show (Try.prog.info? 175).map (fun i => (i.zero, i.size, i.bytes)) = some (some (.slice none 0 0), 1, 24) from by kernel_rfl)
    obtain ⟨w1, hmk, _, hg1⟩ := run_make_own (P := Try.prog) wr wr.heap.size 81 175 j0 _ 1 Try.underlying81 hj hj0 hj1 .i64 .i64 0 (by rw [hj2]; decide) (by decide) (Nat.le_refl _)
    rw [Int.natCast_zero] at hmk
    have hb1 : Below wr.heap.size wr w1 := (Below.refl _ _).grown hg1 (Nat.le_refl _) (by simp)
    have hB := chain0 hB hb1
    clear hj hj0 hj1 hj2 hg1 hb1
    go_wp2_with fail
    go_loopw [6] (fun x W => x = .int .i64 0 ∧ Below w.heap.size w W) (fun _ _ => 0)
    case atStart => exact ⟨rfl, hB⟩
    case round =>
      clear hB
      obtain ⟨rfl, hB⟩ := hrel
      go_wp2_with fail
      go_loopw [9] (fun x W => x = .int .i64 0 ∧ Below w.heap.size w W) (fun _ _ => 0)
      case atStart => exact ⟨rfl, hB⟩
      case round =>
        clear hB
        obtain ⟨rfl, hB⟩ := hrel
        go_wp2_with fail
        go_loopw [11] (fun x W => x = .int .i64 0 ∧ Below w.heap.size w W) (fun _ _ => 0)
        case atStart => exact ⟨rfl, hB⟩
        case round =>
          clear hB
          obtain ⟨rfl, hB⟩ := hrel
          go_wp2_with fail
          go_loopw [14] (fun x W => x = .int .i64 0 ∧ Below w.heap.size w W) (fun _ _ => 0)
          case atStart => exact ⟨rfl, hB⟩
          case round =>
            clear hB
            obtain ⟨rfl, hB⟩ := hrel
            go_wp2
            go_ret
            exact ⟨rfl, hB⟩
end Go.Proofs.Ytafcphnafgfgkaa
