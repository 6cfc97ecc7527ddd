/- parchmentkit: the flat functions of a nil list answer true. -/
import Derived.Test.YtofbcgehemclbaaLp
namespace Go.Proofs.Ytofbcgehemclbaa
open Go.RowKit Bm
set_option maxRecDepth 100000 in
set_option maxHeartbeats 2000000 in
theorem flatWords_nil (w : World) : Calls Try.prog 66 #[.slice none 0 0] w fun e w' => e = .returned (.bool true) ∧ Below w.heap.size w w' := by
  have hB := Below.refl w.heap.size w
  go_enter Try.func66, Try.ntmps66
  go_wp2_with fail
  go_loopw [3] (fun x W => x = .int .i64 0 ∧ Below w.heap.size w W) (fun _ _ => 0)
  case atStart => exact ⟨rfl, hB⟩
  case round =>
    clear hB
    obtain ⟨rfl, hB⟩ := hrel
    obtain ⟨j0, hj, hj0, hj1, hj2⟩ := info_parts (show (Try.prog.info? 123).map (fun i => (i.zero, i.size, i.bytes)) = some (some (.slice none 0 0), 1, 24) from by kernel_rfl)
    obtain ⟨w1, hmk, _, hg1⟩ := run_make_own (P := Try.prog) wr wr.heap.size 69 123 j0 _ 1 Try.underlying69 hj hj0 hj1 .i64 .i64 0 (by rw [hj2]; decide) (by decide) (Nat.le_refl _)
    rw [Int.natCast_zero] at hmk
    have hb1 : Below wr.heap.size wr w1 := (Below.refl _ _).grown hg1 (Nat.le_refl _) (by simp)
    have hB := chain0 hB hb1
    clear hj hj0 hj1 hj2 hg1 hb1
    go_wp2_with fail
    go_loopw [6] (fun x W => x = .int .i64 0 ∧ Below w.heap.size w W) (fun _ _ => 0)
    case atStart => exact ⟨rfl, hB⟩
    case round =>
      clear hB
      obtain ⟨rfl, hB⟩ := hrel
      go_wp2_with fail
      go_loopw [9] (fun x W => x = .int .i64 0 ∧ Below w.heap.size w W) (fun _ _ => 0)
      case atStart => exact ⟨rfl, hB⟩
      case round =>
        clear hB
        obtain ⟨rfl, hB⟩ := hrel
        go_wp2_with fail
        go_loopw [11] (fun x W => x = .int .i64 0 ∧ Below w.heap.size w W) (fun _ _ => 0)
        case atStart => exact ⟨rfl, hB⟩
        case round =>
          clear hB
          obtain ⟨rfl, hB⟩ := hrel
          go_wp2_with fail
          go_loopw [14] (fun x W => x = .int .i64 0 ∧ Below w.heap.size w W) (fun _ _ => 0)
          case atStart => exact ⟨rfl, hB⟩
          case round =>
            clear hB
            obtain ⟨rfl, hB⟩ := hrel
            go_wp2
            go_ret
            exact ⟨rfl, hB⟩
set_option maxRecDepth 100000 in
set_option maxHeartbeats 2000000 in
theorem flatInts_nil (w : World) : Calls Try.prog 67 #[.slice none 0 0] w fun e w' => e = .returned (.bool true) ∧ Below w.heap.size w w' := by
  have hB := Below.refl w.heap.size w
  go_enter Try.func67, Try.ntmps67
  go_wp2_with fail
  go_loopw [3] (fun x W => x = .int .i64 0 ∧ Below w.heap.size w W) (fun _ _ => 0)
  case atStart => exact ⟨rfl, hB⟩
  case round =>
    clear hB
    obtain ⟨rfl, hB⟩ := hrel
    obtain ⟨j0, hj, hj0, hj1, hj2⟩ := info_parts (show (Try.prog.info? 42).map (fun i => (i.zero, i.size, i.bytes)) = some (some (.slice none 0 0), 1, 24) from by kernel_rfl)
    obtain ⟨w1, hmk, _, hg1⟩ := run_make_own (P := Try.prog) wr wr.heap.size 70 42 j0 _ 1 Try.underlying70 hj hj0 hj1 .i64 .i64 0 (by rw [hj2]; decide) (by decide) (Nat.le_refl _)
    rw [Int.natCast_zero] at hmk
    have hb1 : Below wr.heap.size wr w1 := (Below.refl _ _).grown hg1 (Nat.le_refl _) (by simp)
    have hB := chain0 hB hb1
    clear hj hj0 hj1 hj2 hg1 hb1
    go_wp2_with fail
    go_loopw [6] (fun x W => x = .int .i64 0 ∧ Below w.heap.size w W) (fun _ _ => 0)
    case atStart => exact ⟨rfl, hB⟩
    case round =>
      clear hB
      obtain ⟨rfl, hB⟩ := hrel
      go_wp2_with fail
      go_loopw [9] (fun x W => x = .int .i64 0 ∧ Below w.heap.size w W) (fun _ _ => 0)
      case atStart => exact ⟨rfl, hB⟩
      case round =>
        clear hB
        obtain ⟨rfl, hB⟩ := hrel
        go_wp2_with fail
        go_loopw [11] (fun x W => x = .int .i64 0 ∧ Below w.heap.size w W) (fun _ _ => 0)
        case atStart => exact ⟨rfl, hB⟩
        case round =>
          clear hB
          obtain ⟨rfl, hB⟩ := hrel
          go_wp2_with fail
          go_loopw [14] (fun x W => x = .int .i64 0 ∧ Below w.heap.size w W) (fun _ _ => 0)
          case atStart => exact ⟨rfl, hB⟩
          case round =>
            clear hB
            obtain ⟨rfl, hB⟩ := hrel
            go_wp2
            go_ret
            exact ⟨rfl, hB⟩
set_option maxRecDepth 100000 in
set_option maxHeartbeats 2000000 in
theorem flatLongs_nil (w : World) : Calls Try.prog 68 #[.slice none 0 0] w fun e w' => e = .returned (.bool true) ∧ Below w.heap.size w w' := by
  have hB := Below.refl w.heap.size w
  go_enter Try.func68, Try.ntmps68
  go_wp2_with fail
  go_loopw [3] (fun x W => x = .int .i64 0 ∧ Below w.heap.size w W) (fun _ _ => 0)
  case atStart => exact ⟨rfl, hB⟩
  case round =>
    clear hB
    obtain ⟨rfl, hB⟩ := hrel
    obtain ⟨j0, hj, hj0, hj1, hj2⟩ := info_parts (show (Try.prog.info? 124).map (fun i => (i.zero, i.size, i.bytes)) = some (some (.slice none 0 0), 1, 24) from by kernel_rfl)
    obtain ⟨w1, hmk, _, hg1⟩ := run_make_own (P := Try.prog) wr wr.heap.size 71 124 j0 _ 1 Try.underlying71 hj hj0 hj1 .i64 .i64 0 (by rw [hj2]; decide) (by decide) (Nat.le_refl _)
    rw [Int.natCast_zero] at hmk
    have hb1 : Below wr.heap.size wr w1 := (Below.refl _ _).grown hg1 (Nat.le_refl _) (by simp)
    have hB := chain0 hB hb1
    clear hj hj0 hj1 hj2 hg1 hb1
    go_wp2_with fail
    go_loopw [6] (fun x W => x = .int .i64 0 ∧ Below w.heap.size w W) (fun _ _ => 0)
    case atStart => exact ⟨rfl, hB⟩
    case round =>
      clear hB
      obtain ⟨rfl, hB⟩ := hrel
      go_wp2_with fail
      go_loopw [9] (fun x W => x = .int .i64 0 ∧ Below w.heap.size w W) (fun _ _ => 0)
      case atStart => exact ⟨rfl, hB⟩
      case round =>
        clear hB
        obtain ⟨rfl, hB⟩ := hrel
        go_wp2_with fail
        go_loopw [11] (fun x W => x = .int .i64 0 ∧ Below w.heap.size w W) (fun _ _ => 0)
        case atStart => exact ⟨rfl, hB⟩
        case round =>
          clear hB
          obtain ⟨rfl, hB⟩ := hrel
          go_wp2_with fail
          go_loopw [14] (fun x W => x = .int .i64 0 ∧ Below w.heap.size w W) (fun _ _ => 0)
          case atStart => exact ⟨rfl, hB⟩
          case round =>
            clear hB
            obtain ⟨rfl, hB⟩ := hrel
            go_wp2
            go_ret
            exact ⟨rfl, hB⟩
set_option maxRecDepth 100000 in
set_option maxHeartbeats 2000000 in
theorem flatTexts_nil (w : World) : Calls Try.prog 69 #[.slice none 0 0] w fun e w' => e = .returned (.bool true) ∧ Below w.heap.size w w' := by
  have hB := Below.refl w.heap.size w
  go_enter Try.func69, Try.ntmps69
  go_wp2_with fail
  go_loopw [3] (fun x W => x = .int .i64 0 ∧ Below w.heap.size w W) (fun _ _ => 0)
  case atStart => exact ⟨rfl, hB⟩
  case round =>
    clear hB
    obtain ⟨rfl, hB⟩ := hrel
    obtain ⟨j0, hj, hj0, hj1, hj2⟩ := info_parts (show (Try.prog.info? 54).map (fun i => (i.zero, i.size, i.bytes)) = some (some (.slice none 0 0), 1, 24) from by kernel_rfl)
    obtain ⟨w1, hmk, _, hg1⟩ := run_make_own (P := Try.prog) wr wr.heap.size 72 54 j0 _ 1 Try.underlying72 hj hj0 hj1 .i64 .i64 0 (by rw [hj2]; decide) (by decide) (Nat.le_refl _)
    rw [Int.natCast_zero] at hmk
    have hb1 : Below wr.heap.size wr w1 := (Below.refl _ _).grown hg1 (Nat.le_refl _) (by simp)
    have hB := chain0 hB hb1
    clear hj hj0 hj1 hj2 hg1 hb1
    go_wp2_with fail
    go_loopw [6] (fun x W => x = .int .i64 0 ∧ Below w.heap.size w W) (fun _ _ => 0)
    case atStart => exact ⟨rfl, hB⟩
    case round =>
      clear hB
      obtain ⟨rfl, hB⟩ := hrel
      go_wp2_with fail
      go_loopw [9] (fun x W => x = .int .i64 0 ∧ Below w.heap.size w W) (fun _ _ => 0)
      case atStart => exact ⟨rfl, hB⟩
      case round =>
        clear hB
        obtain ⟨rfl, hB⟩ := hrel
        go_wp2_with fail
        go_loopw [11] (fun x W => x = .int .i64 0 ∧ Below w.heap.size w W) (fun _ _ => 0)
        case atStart => exact ⟨rfl, hB⟩
        case round =>
          clear hB
          obtain ⟨rfl, hB⟩ := hrel
          go_wp2_with fail
          go_loopw [14] (fun x W => x = .int .i64 0 ∧ Below w.heap.size w W) (fun _ _ => 0)
          case atStart => exact ⟨rfl, hB⟩
          case round =>
            clear hB
            obtain ⟨rfl, hB⟩ := hrel
            go_wp2
            go_ret
            exact ⟨rfl, hB⟩
set_option maxRecDepth 100000 in
set_option maxHeartbeats 2000000 in
theorem flatNodes_nil (w : World) : Calls Try.prog 71 #[.slice none 0 0] w fun e w' => e = .returned (.bool true) ∧ Below w.heap.size w w' := by
  have hB := Below.refl w.heap.size w
  go_enter Try.func71, Try.ntmps71
  go_wp2_with fail
  go_loopw [3] (fun x W => x = .int .i64 0 ∧ Below w.heap.size w W) (fun _ _ => 0)
  case atStart => exact ⟨rfl, hB⟩
  case round =>
    clear hB
    obtain ⟨rfl, hB⟩ := hrel
    obtain ⟨j0, hj, hj0, hj1, hj2⟩ := info_parts (show (Try.prog.info? 126).map (fun i => (i.zero, i.size, i.bytes)) = some (some (.slice none 0 0), 1, 24) from by kernel_rfl)
    obtain ⟨w1, hmk, _, hg1⟩ := run_make_own (P := Try.prog) wr wr.heap.size 73 126 j0 _ 1 Try.underlying73 hj hj0 hj1 .i64 .i64 0 (by rw [hj2]; decide) (by decide) (Nat.le_refl _)
    rw [Int.natCast_zero] at hmk
    have hb1 : Below wr.heap.size wr w1 := (Below.refl _ _).grown hg1 (Nat.le_refl _) (by simp)
    have hB := chain0 hB hb1
    clear hj hj0 hj1 hj2 hg1 hb1
    go_wp2_with fail
    go_loopw [6] (fun x W => x = .int .i64 0 ∧ Below w.heap.size w W) (fun _ _ => 0)
    case atStart => exact ⟨rfl, hB⟩
    case round =>
      clear hB
      obtain ⟨rfl, hB⟩ := hrel
      go_wp2_with fail
      go_loopw [9] (fun x W => x = .int .i64 0 ∧ Below w.heap.size w W) (fun _ _ => 0)
      case atStart => exact ⟨rfl, hB⟩
      case round =>
        clear hB
        obtain ⟨rfl, hB⟩ := hrel
        go_wp2_with fail
        go_loopw [11] (fun x W => x = .int .i64 0 ∧ Below w.heap.size w W) (fun _ _ => 0)
        case atStart => exact ⟨rfl, hB⟩
        case round =>
          clear hB
          obtain ⟨rfl, hB⟩ := hrel
          go_wp2_with fail
          go_loopw [14] (fun x W => x = .int .i64 0 ∧ Below w.heap.size w W) (fun _ _ => 0)
          case atStart => exact ⟨rfl, hB⟩
          case round =>
            clear hB
            obtain ⟨rfl, hB⟩ := hrel
            go_wp2
            go_ret
            exact ⟨rfl, hB⟩
set_option maxRecDepth 100000 in
set_option maxHeartbeats 2000000 in
theorem flatFates_nil (w : World) : Calls Try.prog 72 #[.slice none 0 0] w fun e w' => e = .returned (.bool true) ∧ Below w.heap.size w w' := by
  have hB := Below.refl w.heap.size w
  go_enter Try.func72, Try.ntmps72
  go_wp2_with fail
  go_loopw [3] (fun x W => x = .int .i64 0 ∧ Below w.heap.size w W) (fun _ _ => 0)
  case atStart => exact ⟨rfl, hB⟩
  case round =>
    clear hB
    obtain ⟨rfl, hB⟩ := hrel
    obtain ⟨j0, hj, hj0, hj1, hj2⟩ := info_parts (show (Try.prog.info? 131).map (fun i => (i.zero, i.size, i.bytes)) = some (some (.slice none 0 0), 1, 24) from by kernel_rfl)
    obtain ⟨w1, hmk, _, hg1⟩ := run_make_own (P := Try.prog) wr wr.heap.size 74 131 j0 _ 1 Try.underlying74 hj hj0 hj1 .i64 .i64 0 (by rw [hj2]; decide) (by decide) (Nat.le_refl _)
    rw [Int.natCast_zero] at hmk
    have hb1 : Below wr.heap.size wr w1 := (Below.refl _ _).grown hg1 (Nat.le_refl _) (by simp)
    have hB := chain0 hB hb1
    clear hj hj0 hj1 hj2 hg1 hb1
    go_wp2_with fail
    go_loopw [6] (fun x W => x = .int .i64 0 ∧ Below w.heap.size w W) (fun _ _ => 0)
    case atStart => exact ⟨rfl, hB⟩
    case round =>
      clear hB
      obtain ⟨rfl, hB⟩ := hrel
      go_wp2_with fail
      go_loopw [9] (fun x W => x = .int .i64 0 ∧ Below w.heap.size w W) (fun _ _ => 0)
      case atStart => exact ⟨rfl, hB⟩
      case round =>
        clear hB
        obtain ⟨rfl, hB⟩ := hrel
        go_wp2_with fail
        go_loopw [11] (fun x W => x = .int .i64 0 ∧ Below w.heap.size w W) (fun _ _ => 0)
        case atStart => exact ⟨rfl, hB⟩
        case round =>
          clear hB
          obtain ⟨rfl, hB⟩ := hrel
          go_wp2_with fail
          go_loopw [14] (fun x W => x = .int .i64 0 ∧ Below w.heap.size w W) (fun _ _ => 0)
          case atStart => exact ⟨rfl, hB⟩
          case round =>
            clear hB
            obtain ⟨rfl, hB⟩ := hrel
            go_wp2
            go_ret
            exact ⟨rfl, hB⟩
set_option maxRecDepth 100000 in
set_option maxHeartbeats 2000000 in
theorem flatSpans_nil (w : World) : Calls Try.prog 73 #[.slice none 0 0] w fun e w' => e = .returned (.bool true) ∧ Below w.heap.size w w' := by
  have hB := Below.refl w.heap.size w
  go_enter Try.func73, Try.ntmps73
  go_wp2_with fail
  go_loopw [3] (fun x W => x = .int .i64 0 ∧ Below w.heap.size w W) (fun _ _ => 0)
  case atStart => exact ⟨rfl, hB⟩
  case round =>
    clear hB
    obtain ⟨rfl, hB⟩ := hrel
    obtain ⟨j0, hj, hj0, hj1, hj2⟩ := info_parts (show (Try.prog.info? 135).map (fun i => (i.zero, i.size, i.bytes)) = some (some (.slice none 0 0), 1, 24) from by kernel_rfl)
    obtain ⟨w1, hmk, _, hg1⟩ := run_make_own (P := Try.prog) wr wr.heap.size 75 135 j0 _ 1 Try.underlying75 hj hj0 hj1 .i64 .i64 0 (by rw [hj2]; decide) (by decide) (Nat.le_refl _)
    rw [Int.natCast_zero] at hmk
    have hb1 : Below wr.heap.size wr w1 := (Below.refl _ _).grown hg1 (Nat.le_refl _) (by simp)
    have hB := chain0 hB hb1
    clear hj hj0 hj1 hj2 hg1 hb1
    go_wp2_with fail
    go_loopw [6] (fun x W => x = .int .i64 0 ∧ Below w.heap.size w W) (fun _ _ => 0)
    case atStart => exact ⟨rfl, hB⟩
    case round =>
      clear hB
      obtain ⟨rfl, hB⟩ := hrel
      go_wp2_with fail
      go_loopw [9] (fun x W => x = .int .i64 0 ∧ Below w.heap.size w W) (fun _ _ => 0)
      case atStart => exact ⟨rfl, hB⟩
      case round =>
        clear hB
        obtain ⟨rfl, hB⟩ := hrel
        go_wp2_with fail
        go_loopw [11] (fun x W => x = .int .i64 0 ∧ Below w.heap.size w W) (fun _ _ => 0)
        case atStart => exact ⟨rfl, hB⟩
        case round =>
          clear hB
          obtain ⟨rfl, hB⟩ := hrel
          go_wp2_with fail
          go_loopw [14] (fun x W => x = .int .i64 0 ∧ Below w.heap.size w W) (fun _ _ => 0)
          case atStart => exact ⟨rfl, hB⟩
          case round =>
            clear hB
            obtain ⟨rfl, hB⟩ := hrel
            go_wp2
            go_ret
            exact ⟨rfl, hB⟩
set_option maxRecDepth 100000 in
set_option maxHeartbeats 2000000 in
theorem flatDirties_nil (w : World) : Calls Try.prog 74 #[.slice none 0 0] w fun e w' => e = .returned (.bool true) ∧ Below w.heap.size w w' := by
  have hB := Below.refl w.heap.size w
  go_enter Try.func74, Try.ntmps74
  go_wp2_with fail
  go_loopw [3] (fun x W => x = .int .i64 0 ∧ Below w.heap.size w W) (fun _ _ => 0)
  case atStart => exact ⟨rfl, hB⟩
  case round =>
    clear hB
    obtain ⟨rfl, hB⟩ := hrel
    obtain ⟨j0, hj, hj0, hj1, hj2⟩ := info_parts (show (Try.prog.info? 140).map (fun i => (i.zero, i.size, i.bytes)) = some (some (.slice none 0 0), 1, 24) from by kernel_rfl)
    obtain ⟨w1, hmk, _, hg1⟩ := run_make_own (P := Try.prog) wr wr.heap.size 76 140 j0 _ 1 Try.underlying76 hj hj0 hj1 .i64 .i64 0 (by rw [hj2]; decide) (by decide) (Nat.le_refl _)
    rw [Int.natCast_zero] at hmk
    have hb1 : Below wr.heap.size wr w1 := (Below.refl _ _).grown hg1 (Nat.le_refl _) (by simp)
    have hB := chain0 hB hb1
    clear hj hj0 hj1 hj2 hg1 hb1
    go_wp2_with fail
    go_loopw [6] (fun x W => x = .int .i64 0 ∧ Below w.heap.size w W) (fun _ _ => 0)
    case atStart => exact ⟨rfl, hB⟩
    case round =>
      clear hB
      obtain ⟨rfl, hB⟩ := hrel
      go_wp2_with fail
      go_loopw [9] (fun x W => x = .int .i64 0 ∧ Below w.heap.size w W) (fun _ _ => 0)
      case atStart => exact ⟨rfl, hB⟩
      case round =>
        clear hB
        obtain ⟨rfl, hB⟩ := hrel
        go_wp2_with fail
        go_loopw [11] (fun x W => x = .int .i64 0 ∧ Below w.heap.size w W) (fun _ _ => 0)
        case atStart => exact ⟨rfl, hB⟩
        case round =>
          clear hB
          obtain ⟨rfl, hB⟩ := hrel
          go_wp2_with fail
          go_loopw [14] (fun x W => x = .int .i64 0 ∧ Below w.heap.size w W) (fun _ _ => 0)
          case atStart => exact ⟨rfl, hB⟩
          case round =>
            clear hB
            obtain ⟨rfl, hB⟩ := hrel
            go_wp2
            go_ret
            exact ⟨rfl, hB⟩
set_option maxRecDepth 100000 in
set_option maxHeartbeats 2000000 in
theorem flatRecords_nil (w : World) : Calls Try.prog 75 #[.slice none 0 0] w fun e w' => e = .returned (.bool true) ∧ Below w.heap.size w w' := by
  have hB := Below.refl w.heap.size w
  go_enter Try.func75, Try.ntmps75
  go_wp2_with fail
  go_loopw [3] (fun x W => x = .int .i64 0 ∧ Below w.heap.size w W) (fun _ _ => 0)
  case atStart => exact ⟨rfl, hB⟩
  case round =>
    clear hB
    obtain ⟨rfl, hB⟩ := hrel
    obtain ⟨j0, hj, hj0, hj1, hj2⟩ := info_parts (show (Try.prog.info? 144).map (fun i => (i.zero, i.size, i.bytes)) = some (some (.slice none 0 0), 1, 24) from by kernel_rfl)
    obtain ⟨w1, hmk, _, hg1⟩ := run_make_own (P := Try.prog) wr wr.heap.size 77 144 j0 _ 1 Try.underlying77 hj hj0 hj1 .i64 .i64 0 (by rw [hj2]; decide) (by decide) (Nat.le_refl _)
    rw [Int.natCast_zero] at hmk
    have hb1 : Below wr.heap.size wr w1 := (Below.refl _ _).grown hg1 (Nat.le_refl _) (by simp)
    have hB := chain0 hB hb1
    clear hj hj0 hj1 hj2 hg1 hb1
    go_wp2_with fail
    go_loopw [6] (fun x W => x = .int .i64 0 ∧ Below w.heap.size w W) (fun _ _ => 0)
    case atStart => exact ⟨rfl, hB⟩
    case round =>
      clear hB
      obtain ⟨rfl, hB⟩ := hrel
      go_wp2_with fail
      go_loopw [9] (fun x W => x = .int .i64 0 ∧ Below w.heap.size w W) (fun _ _ => 0)
      case atStart => exact ⟨rfl, hB⟩
      case round =>
        clear hB
        obtain ⟨rfl, hB⟩ := hrel
        go_wp2_with fail
        go_loopw [11] (fun x W => x = .int .i64 0 ∧ Below w.heap.size w W) (fun _ _ => 0)
        case atStart => exact ⟨rfl, hB⟩
        case round =>
          clear hB
          obtain ⟨rfl, hB⟩ := hrel
          go_wp2_with fail
          go_loopw [14] (fun x W => x = .int .i64 0 ∧ Below w.heap.size w W) (fun _ _ => 0)
          case atStart => exact ⟨rfl, hB⟩
          case round =>
            clear hB
            obtain ⟨rfl, hB⟩ := hrel
            go_wp2
            go_ret
            exact ⟨rfl, hB⟩
set_option maxRecDepth 100000 in
set_option maxHeartbeats 2000000 in
theorem flatCells_nil (w : World) : Calls Try.prog 76 #[.slice none 0 0] w fun e w' => e = .returned (.bool true) ∧ Below w.heap.size w w' := by
  have hB := Below.refl w.heap.size w
  go_enter Try.func76, Try.ntmps76
  go_wp2_with fail
  go_loopw [3] (fun x W => x = .int .i64 0 ∧ Below w.heap.size w W) (fun _ _ => 0)
  case atStart => exact ⟨rfl, hB⟩
  case round =>
    clear hB
    obtain ⟨rfl, hB⟩ := hrel
    obtain ⟨j0, hj, hj0, hj1, hj2⟩ := info_parts (show (Try.prog.info? 150).map (fun i => (i.zero, i.size, i.bytes)) = some (some (.slice none 0 0), 1, 24) from by kernel_rfl)
    obtain ⟨w1, hmk, _, hg1⟩ := run_make_own (P := Try.prog) wr wr.heap.size 78 150 j0 _ 1 Try.underlying78 hj hj0 hj1 .i64 .i64 0 (by rw [hj2]; decide) (by decide) (Nat.le_refl _)
    rw [Int.natCast_zero] at hmk
    have hb1 : Below wr.heap.size wr w1 := (Below.refl _ _).grown hg1 (Nat.le_refl _) (by simp)
    have hB := chain0 hB hb1
    clear hj hj0 hj1 hj2 hg1 hb1
    go_wp2_with fail
    go_loopw [6] (fun x W => x = .int .i64 0 ∧ Below w.heap.size w W) (fun _ _ => 0)
    case atStart => exact ⟨rfl, hB⟩
    case round =>
      clear hB
      obtain ⟨rfl, hB⟩ := hrel
      go_wp2_with fail
      go_loopw [9] (fun x W => x = .int .i64 0 ∧ Below w.heap.size w W) (fun _ _ => 0)
      case atStart => exact ⟨rfl, hB⟩
      case round =>
        clear hB
        obtain ⟨rfl, hB⟩ := hrel
        go_wp2_with fail
        go_loopw [11] (fun x W => x = .int .i64 0 ∧ Below w.heap.size w W) (fun _ _ => 0)
        case atStart => exact ⟨rfl, hB⟩
        case round =>
          clear hB
          obtain ⟨rfl, hB⟩ := hrel
          go_wp2_with fail
          go_loopw [14] (fun x W => x = .int .i64 0 ∧ Below w.heap.size w W) (fun _ _ => 0)
          case atStart => exact ⟨rfl, hB⟩
          case round =>
            clear hB
            obtain ⟨rfl, hB⟩ := hrel
            go_wp2
            go_ret
            exact ⟨rfl, hB⟩
set_option maxRecDepth 100000 in
set_option maxHeartbeats 2000000 in
theorem flatHelds_nil (w : World) : Calls Try.prog 77 #[.slice none 0 0] w fun e w' => e = .returned (.bool true) ∧ Below w.heap.size w w' := by
  have hB := Below.refl w.heap.size w
  go_enter Try.func77, Try.ntmps77
  go_wp2_with fail
  go_loopw [3] (fun x W => x = .int .i64 0 ∧ Below w.heap.size w W) (fun _ _ => 0)
  case atStart => exact ⟨rfl, hB⟩
  case round =>
    clear hB
    obtain ⟨rfl, hB⟩ := hrel
    obtain ⟨j0, hj, hj0, hj1, hj2⟩ := info_parts (show (Try.prog.info? 155).map (fun i => (i.zero, i.size, i.bytes)) = some (some (.slice none 0 0), 1, 24) from by kernel_rfl)
    obtain ⟨w1, hmk, _, hg1⟩ := run_make_own (P := Try.prog) wr wr.heap.size 79 155 j0 _ 1 Try.underlying79 hj hj0 hj1 .i64 .i64 0 (by rw [hj2]; decide) (by decide) (Nat.le_refl _)
    rw [Int.natCast_zero] at hmk
    have hb1 : Below wr.heap.size wr w1 := (Below.refl _ _).grown hg1 (Nat.le_refl _) (by simp)
    have hB := chain0 hB hb1
    clear hj hj0 hj1 hj2 hg1 hb1
    go_wp2_with fail
    go_loopw [6] (fun x W => x = .int .i64 0 ∧ Below w.heap.size w W) (fun _ _ => 0)
    case atStart => exact ⟨rfl, hB⟩
    case round =>
      clear hB
      obtain ⟨rfl, hB⟩ := hrel
      go_wp2_with fail
      go_loopw [9] (fun x W => x = .int .i64 0 ∧ Below w.heap.size w W) (fun _ _ => 0)
      case atStart => exact ⟨rfl, hB⟩
      case round =>
        clear hB
        obtain ⟨rfl, hB⟩ := hrel
        go_wp2_with fail
        go_loopw [11] (fun x W => x = .int .i64 0 ∧ Below w.heap.size w W) (fun _ _ => 0)
        case atStart => exact ⟨rfl, hB⟩
        case round =>
          clear hB
          obtain ⟨rfl, hB⟩ := hrel
          go_wp2_with fail
          go_loopw [14] (fun x W => x = .int .i64 0 ∧ Below w.heap.size w W) (fun _ _ => 0)
          case atStart => exact ⟨rfl, hB⟩
          case round =>
            clear hB
            obtain ⟨rfl, hB⟩ := hrel
            go_wp2
            go_ret
            exact ⟨rfl, hB⟩
set_option maxRecDepth 100000 in
set_option maxHeartbeats 2000000 in
theorem flatTokens_nil (w : World) : Calls Try.prog 78 #[.slice none 0 0] w fun e w' => e = .returned (.bool true) ∧ Below w.heap.size w w' := by
  have hB := Below.refl w.heap.size w
  go_enter Try.func78, Try.ntmps78
  go_wp2_with fail
  go_loopw [3] (fun x W => x = .int .i64 0 ∧ Below w.heap.size w W) (fun _ _ => 0)
  case atStart => exact ⟨rfl, hB⟩
  case round =>
    clear hB
    obtain ⟨rfl, hB⟩ := hrel
    obtain ⟨j0, hj, hj0, hj1, hj2⟩ := info_parts (show (Try.prog.info? 160).map (fun i => (i.zero, i.size, i.bytes)) = some (some (.slice none 0 0), 1, 24) from by kernel_rfl)
    obtain ⟨w1, hmk, _, hg1⟩ := run_make_own (P := Try.prog) wr wr.heap.size 80 160 j0 _ 1 Try.underlying80 hj hj0 hj1 .i64 .i64 0 (by rw [hj2]; decide) (by decide) (Nat.le_refl _)
    rw [Int.natCast_zero] at hmk
    have hb1 : Below wr.heap.size wr w1 := (Below.refl _ _).grown hg1 (Nat.le_refl _) (by simp)
    have hB := chain0 hB hb1
    clear hj hj0 hj1 hj2 hg1 hb1
    go_wp2_with fail
    go_loopw [6] (fun x W => x = .int .i64 0 ∧ Below w.heap.size w W) (fun _ _ => 0)
    case atStart => exact ⟨rfl, hB⟩
    case round =>
      clear hB
      obtain ⟨rfl, hB⟩ := hrel
      go_wp2_with fail
      go_loopw [9] (fun x W => x = .int .i64 0 ∧ Below w.heap.size w W) (fun _ _ => 0)
      case atStart => exact ⟨rfl, hB⟩
      case round =>
        clear hB
        obtain ⟨rfl, hB⟩ := hrel
        go_wp2_with fail
        go_loopw [11] (fun x W => x = .int .i64 0 ∧ Below w.heap.size w W) (fun _ _ => 0)
        case atStart => exact ⟨rfl, hB⟩
        case round =>
          clear hB
          obtain ⟨rfl, hB⟩ := hrel
          go_wp2_with fail
          go_loopw [14] (fun x W => x = .int .i64 0 ∧ Below w.heap.size w W) (fun _ _ => 0)
          case atStart => exact ⟨rfl, hB⟩
          case round =>
            clear hB
            obtain ⟨rfl, hB⟩ := hrel
            go_wp2
            go_ret
            exact ⟨rfl, hB⟩
set_option maxRecDepth 100000 in
set_option maxHeartbeats 2000000 in
theorem flatExprs_nil (w : World) : Calls Try.prog 79 #[.slice none 0 0] w fun e w' => e = .returned (.bool true) ∧ Below w.heap.size w w' := by
  have hB := Below.refl w.heap.size w
  go_enter Try.func79, Try.ntmps79
  go_wp2_with fail
  go_loopw [3] (fun x W => x = .int .i64 0 ∧ Below w.heap.size w W) (fun _ _ => 0)
  case atStart => exact ⟨rfl, hB⟩
  case round =>
    clear hB
    obtain ⟨rfl, hB⟩ := hrel
    obtain ⟨j0, hj, hj0, hj1, hj2⟩ := info_parts (show (Try.prog.info? 165).map (fun i => (i.zero, i.size, i.bytes)) = some (some (.slice none 0 0), 1, 24) from by kernel_rfl)
    obtain ⟨w1, hmk, _, hg1⟩ := run_make_own (P := Try.prog) wr wr.heap.size 81 165 j0 _ 1 Try.underlying81 hj hj0 hj1 .i64 .i64 0 (by rw [hj2]; decide) (by decide) (Nat.le_refl _)
    rw [Int.natCast_zero] at hmk
    have hb1 : Below wr.heap.size wr w1 := (Below.refl _ _).grown hg1 (Nat.le_refl _) (by simp)
    have hB := chain0 hB hb1
    clear hj hj0 hj1 hj2 hg1 hb1
    go_wp2_with fail
    go_loopw [6] (fun x W => x = .int .i64 0 ∧ Below w.heap.size w W) (fun _ _ => 0)
    case atStart => exact ⟨rfl, hB⟩
    case round =>
      clear hB
      obtain ⟨rfl, hB⟩ := hrel
      go_wp2_with fail
      go_loopw [9] (fun x W => x = .int .i64 0 ∧ Below w.heap.size w W) (fun _ _ => 0)
      case atStart => exact ⟨rfl, hB⟩
      case round =>
        clear hB
        obtain ⟨rfl, hB⟩ := hrel
        go_wp2_with fail
        go_loopw [11] (fun x W => x = .int .i64 0 ∧ Below w.heap.size w W) (fun _ _ => 0)
        case atStart => exact ⟨rfl, hB⟩
        case round =>
          clear hB
          obtain ⟨rfl, hB⟩ := hrel
          go_wp2_with fail
          go_loopw [14] (fun x W => x = .int .i64 0 ∧ Below w.heap.size w W) (fun _ _ => 0)
          case atStart => exact ⟨rfl, hB⟩
          case round =>
            clear hB
            obtain ⟨rfl, hB⟩ := hrel
            go_wp2
            go_ret
            exact ⟨rfl, hB⟩
set_option maxRecDepth 100000 in
set_option maxHeartbeats 2000000 in
theorem flatItems_nil (w : World) : Calls Try.prog 80 #[.slice none 0 0] w fun e w' => e = .returned (.bool true) ∧ Below w.heap.size w w' := by
  have hB := Below.refl w.heap.size w
  go_enter Try.func80, Try.ntmps80
  go_wp2_with fail
  go_loopw [3] (fun x W => x = .int .i64 0 ∧ Below w.heap.size w W) (fun _ _ => 0)
  case atStart => exact ⟨rfl, hB⟩
  case round =>
    clear hB
    obtain ⟨rfl, hB⟩ := hrel
    obtain ⟨j0, hj, hj0, hj1, hj2⟩ := info_parts (show (Try.prog.info? 173).map (fun i => (i.zero, i.size, i.bytes)) = some (some (.slice none 0 0), 1, 24) from by kernel_rfl)
    obtain ⟨w1, hmk, _, hg1⟩ := run_make_own (P := Try.prog) wr wr.heap.size 82 173 j0 _ 1 Try.underlying82 hj hj0 hj1 .i64 .i64 0 (by rw [hj2]; decide) (by decide) (Nat.le_refl _)
    rw [Int.natCast_zero] at hmk
    have hb1 : Below wr.heap.size wr w1 := (Below.refl _ _).grown hg1 (Nat.le_refl _) (by simp)
    have hB := chain0 hB hb1
    clear hj hj0 hj1 hj2 hg1 hb1
    go_wp2_with fail
    go_loopw [6] (fun x W => x = .int .i64 0 ∧ Below w.heap.size w W) (fun _ _ => 0)
    case atStart => exact ⟨rfl, hB⟩
    case round =>
      clear hB
      obtain ⟨rfl, hB⟩ := hrel
      go_wp2_with fail
      go_loopw [9] (fun x W => x = .int .i64 0 ∧ Below w.heap.size w W) (fun _ _ => 0)
      case atStart => exact ⟨rfl, hB⟩
      case round =>
        clear hB
        obtain ⟨rfl, hB⟩ := hrel
        go_wp2_with fail
        go_loopw [11] (fun x W => x = .int .i64 0 ∧ Below w.heap.size w W) (fun _ _ => 0)
        case atStart => exact ⟨rfl, hB⟩
        case round =>
          clear hB
          obtain ⟨rfl, hB⟩ := hrel
          go_wp2_with fail
          go_loopw [14] (fun x W => x = .int .i64 0 ∧ Below w.heap.size w W) (fun _ _ => 0)
          case atStart => exact ⟨rfl, hB⟩
          case round =>
            clear hB
            obtain ⟨rfl, hB⟩ := hrel
            go_wp2
            go_ret
            exact ⟨rfl, hB⟩
set_option maxRecDepth 100000 in
set_option maxHeartbeats 2000000 in
theorem flatShowns_nil (w : World) : Calls Try.prog 81 #[.slice none 0 0] w fun e w' => e = .returned (.bool true) ∧ Below w.heap.size w w' := by
  have hB := Below.refl w.heap.size w
  go_enter Try.func81, Try.ntmps81
  go_wp2_with fail
  go_loopw [3] (fun x W => x = .int .i64 0 ∧ Below w.heap.size w W) (fun _ _ => 0)
  case atStart => exact ⟨rfl, hB⟩
  case round =>
    clear hB
    obtain ⟨rfl, hB⟩ := hrel
    obtain ⟨j0, hj, hj0, hj1, hj2⟩ := info_parts (show (Try.prog.info? 178).map (fun i => (i.zero, i.size, i.bytes)) = some (some (.slice none 0 0), 1, 24) from by kernel_rfl)
    obtain ⟨w1, hmk, _, hg1⟩ := run_make_own (P := Try.prog) wr wr.heap.size 83 178 j0 _ 1 Try.underlying83 hj hj0 hj1 .i64 .i64 0 (by rw [hj2]; decide) (by decide) (Nat.le_refl _)
    rw [Int.natCast_zero] at hmk
    have hb1 : Below wr.heap.size wr w1 := (Below.refl _ _).grown hg1 (Nat.le_refl _) (by simp)
    have hB := chain0 hB hb1
    clear hj hj0 hj1 hj2 hg1 hb1
    go_wp2_with fail
    go_loopw [6] (fun x W => x = .int .i64 0 ∧ Below w.heap.size w W) (fun _ _ => 0)
    case atStart => exact ⟨rfl, hB⟩
    case round =>
      clear hB
      obtain ⟨rfl, hB⟩ := hrel
      go_wp2_with fail
      go_loopw [9] (fun x W => x = .int .i64 0 ∧ Below w.heap.size w W) (fun _ _ => 0)
      case atStart => exact ⟨rfl, hB⟩
      case round =>
        clear hB
        obtain ⟨rfl, hB⟩ := hrel
        go_wp2_with fail
        go_loopw [11] (fun x W => x = .int .i64 0 ∧ Below w.heap.size w W) (fun _ _ => 0)
        case atStart => exact ⟨rfl, hB⟩
        case round =>
          clear hB
          obtain ⟨rfl, hB⟩ := hrel
          go_wp2_with fail
          go_loopw [14] (fun x W => x = .int .i64 0 ∧ Below w.heap.size w W) (fun _ _ => 0)
          case atStart => exact ⟨rfl, hB⟩
          case round =>
            clear hB
            obtain ⟨rfl, hB⟩ := hrel
            go_wp2
            go_ret
            exact ⟨rfl, hB⟩
set_option maxRecDepth 100000 in
set_option maxHeartbeats 2000000 in
theorem flatParts_nil (w : World) : Calls Try.prog 82 #[.slice none 0 0] w fun e w' => e = .returned (.bool true) ∧ Below w.heap.size w w' := by
  have hB := Below.refl w.heap.size w
  go_enter Try.func82, Try.ntmps82
  go_wp2_with fail
  go_loopw [3] (fun x W => x = .int .i64 0 ∧ Below w.heap.size w W) (fun _ _ => 0)
  case atStart => exact ⟨rfl, hB⟩
  case round =>
    clear hB
    obtain ⟨rfl, hB⟩ := hrel
    obtain ⟨j0, hj, hj0, hj1, hj2⟩ := info_parts (show (Try.prog.info? 182).map (fun i => (i.zero, i.size, i.bytes)) = some (some (.slice none 0 0), 1, 24) from by kernel_rfl)
    obtain ⟨w1, hmk, _, hg1⟩ := run_make_own (P := Try.prog) wr wr.heap.size 84 182 j0 _ 1 Try.underlying84 hj hj0 hj1 .i64 .i64 0 (by rw [hj2]; decide) (by decide) (Nat.le_refl _)
    rw [Int.natCast_zero] at hmk
    have hb1 : Below wr.heap.size wr w1 := (Below.refl _ _).grown hg1 (Nat.le_refl _) (by simp)
    have hB := chain0 hB hb1
    clear hj hj0 hj1 hj2 hg1 hb1
    go_wp2_with fail
    go_loopw [6] (fun x W => x = .int .i64 0 ∧ Below w.heap.size w W) (fun _ _ => 0)
    case atStart => exact ⟨rfl, hB⟩
    case round =>
      clear hB
      obtain ⟨rfl, hB⟩ := hrel
      go_wp2_with fail
      go_loopw [9] (fun x W => x = .int .i64 0 ∧ Below w.heap.size w W) (fun _ _ => 0)
      case atStart => exact ⟨rfl, hB⟩
      case round =>
        clear hB
        obtain ⟨rfl, hB⟩ := hrel
        go_wp2_with fail
        go_loopw [11] (fun x W => x = .int .i64 0 ∧ Below w.heap.size w W) (fun _ _ => 0)
        case atStart => exact ⟨rfl, hB⟩
        case round =>
          clear hB
          obtain ⟨rfl, hB⟩ := hrel
          go_wp2_with fail
          go_loopw [14] (fun x W => x = .int .i64 0 ∧ Below w.heap.size w W) (fun _ _ => 0)
          case atStart => exact ⟨rfl, hB⟩
          case round =>
            clear hB
            obtain ⟨rfl, hB⟩ := hrel
            go_wp2
            go_ret
            exact ⟨rfl, hB⟩
set_option maxRecDepth 100000 in
set_option maxHeartbeats 2000000 in
theorem flatCommands_nil (w : World) : Calls Try.prog 83 #[.slice none 0 0] w fun e w' => e = .returned (.bool true) ∧ Below w.heap.size w w' := by
  have hB := Below.refl w.heap.size w
  go_enter Try.func83, Try.ntmps83
  go_wp2_with fail
  go_loopw [3] (fun x W => x = .int .i64 0 ∧ Below w.heap.size w W) (fun _ _ => 0)
  case atStart => exact ⟨rfl, hB⟩
  case round =>
    clear hB
    obtain ⟨rfl, hB⟩ := hrel
    obtain ⟨j0, hj, hj0, hj1, hj2⟩ := info_parts (show (Try.prog.info? 188).map (fun i => (i.zero, i.size, i.bytes)) = some (some (.slice none 0 0), 1, 24) from by kernel_rfl)
    obtain ⟨w1, hmk, _, hg1⟩ := run_make_own (P := Try.prog) wr wr.heap.size 85 188 j0 _ 1 Try.underlying85 hj hj0 hj1 .i64 .i64 0 (by rw [hj2]; decide) (by decide) (Nat.le_refl _)
    rw [Int.natCast_zero] at hmk
    have hb1 : Below wr.heap.size wr w1 := (Below.refl _ _).grown hg1 (Nat.le_refl _) (by simp)
    have hB := chain0 hB hb1
    clear hj hj0 hj1 hj2 hg1 hb1
    go_wp2_with fail
    go_loopw [6] (fun x W => x = .int .i64 0 ∧ Below w.heap.size w W) (fun _ _ => 0)
    case atStart => exact ⟨rfl, hB⟩
    case round =>
      clear hB
      obtain ⟨rfl, hB⟩ := hrel
      go_wp2_with fail
      go_loopw [9] (fun x W => x = .int .i64 0 ∧ Below w.heap.size w W) (fun _ _ => 0)
      case atStart => exact ⟨rfl, hB⟩
      case round =>
        clear hB
        obtain ⟨rfl, hB⟩ := hrel
        go_wp2_with fail
        go_loopw [11] (fun x W => x = .int .i64 0 ∧ Below w.heap.size w W) (fun _ _ => 0)
        case atStart => exact ⟨rfl, hB⟩
        case round =>
          clear hB
          obtain ⟨rfl, hB⟩ := hrel
          go_wp2_with fail
          go_loopw [14] (fun x W => x = .int .i64 0 ∧ Below w.heap.size w W) (fun _ _ => 0)
          case atStart => exact ⟨rfl, hB⟩
          case round =>
            clear hB
            obtain ⟨rfl, hB⟩ := hrel
            go_wp2
            go_ret
            exact ⟨rfl, hB⟩
end Go.Proofs.Ytofbcgehemclbaa
