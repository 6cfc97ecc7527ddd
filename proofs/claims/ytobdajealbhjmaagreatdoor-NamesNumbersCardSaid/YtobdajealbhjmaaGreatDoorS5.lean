/- key.PutInt at any number: a row of eight. -/
import Derived.Test.YtobdajealbhjmaaGreatDoorRows
import Derived.Test.YtobdajealbhjmaaGreatDoorMem
namespace Go.Proofs.YtobdajealbhjmaaGreatDoor
open Go.RowKit
set_option maxRecDepth 100000 in
set_option maxHeartbeats 1600000 in
theorem putInt_any (n : Int) (w : World) :
    Calls Tryz.prog 31 #[.int .i64 n] w fun e w' => e = .returned (.slice (some ⟨w.heap.size, 0, none⟩) 8 8) ∧ ∃ l : List Value, l.length = 8 ∧ w' = w.alloc (.cells ⟨l⟩ 5) := by
  have hm : (Instr.makeSlice 24 (.int .i64 8) (.int .i64 8)).run Tryz.prog w = .ok (.slice (some ⟨w.heap.size, 0, none⟩) 8 8) (w.alloc (.cells (Lib.byteCells (zeros 8)).toArray 5)) := by simpa using run_mk 8 (by decide) w
  go_enter Tryz.func31, Tryz.ntmps31
  go_wp2
  generalize bits BinOp.xor IntKind.u64 (IntKind.u64.wrap n) 9223372036854775808 = x
  go_loopw [10] (fun v wr => ∃ k : Nat, k ≤ 8 ∧ v = .int .i64 (k : Int) ∧ ∃ l : List Value, l.length = 8 ∧ wr = w.alloc (.cells ⟨l⟩ 5)) (fun v _ => match v with | .int _ k => 8 - k.toNat | _ => 0)
  case atStart => exact ⟨0, by omega, rfl, Lib.byteCells (zeros 8), by simp [Lib.byteCells, zeros], rfl⟩
  case round =>
    obtain ⟨k, hk, rfl, l, hl, rfl⟩ := hrel
    obtain ⟨a0, a1, a2, a3, a4, a5, a6, a7, rfl⟩ : ∃ a0 a1 a2 a3 a4 a5 a6 a7, l = [a0, a1, a2, a3, a4, a5, a6, a7] := by
      match l, hl with
      | [a0, a1, a2, a3, a4, a5, a6, a7], _ => exact ⟨a0, a1, a2, a3, a4, a5, a6, a7, rfl⟩
    clear hl
    have hk' : k = 0 ∨ k = 1 ∨ k = 2 ∨ k = 3 ∨ k = 4 ∨ k = 5 ∨ k = 6 ∨ k = 7 ∨ k = 8 := by omega
    clear hk
    rcases hk' with rfl | rfl | rfl | rfl | rfl | rfl | rfl | rfl | rfl
    · go_wp2
      exact ⟨⟨1, by omega, rfl, _, rfl, rfl⟩, by decide⟩
    · go_wp2
      exact ⟨⟨2, by omega, rfl, _, rfl, rfl⟩, by decide⟩
    · go_wp2
      exact ⟨⟨3, by omega, rfl, _, rfl, rfl⟩, by decide⟩
    · go_wp2
      exact ⟨⟨4, by omega, rfl, _, rfl, rfl⟩, by decide⟩
    · go_wp2
      exact ⟨⟨5, by omega, rfl, _, rfl, rfl⟩, by decide⟩
    · go_wp2
      exact ⟨⟨6, by omega, rfl, _, rfl, rfl⟩, by decide⟩
    · go_wp2
      exact ⟨⟨7, by omega, rfl, _, rfl, rfl⟩, by decide⟩
    · go_wp2
      exact ⟨⟨8, by omega, rfl, _, rfl, rfl⟩, by decide⟩
    · go_wp2
      go_ret
      exact ⟨rfl, _, rfl, rfl⟩
end Go.Proofs.YtobdajealbhjmaaGreatDoor
