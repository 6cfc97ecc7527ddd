/- chars at plain text. -/
import Derived.Test.YtmnmnnocgimcpaaGreatDoorVa
namespace Go.Proofs.YtmnmnnocgimcpaaGreatDoor
open Go.RowKit
set_option maxRecDepth 100000 in
set_option maxHeartbeats 1000000 in
theorem char_ascii (r : Int) (w : World) (h1 : 32 ≤ r) (h2 : r < 127) : Calls Tryz.prog 123 #[.int .i32 r] w fun e w' => e = .returned (.bool true) ∧ w = w' := by
  have e1 : (r == 9) = false := by simp; omega
  have e2 : (r == 10) = false := by simp; omega
  have e3 : (r == 13) = false := by simp; omega
  have n1 : ¬ r < 32 := by omega
  have n2 : ¬ 55296 ≤ r := by omega
  have n3 : ¬ 1114111 < r := by omega
  have e4 : (r == 65534) = false := by simp; omega
  have e5 : (r == 65535) = false := by simp; omega
  have e6 : (r != 65534) = true := by simp; omega
  have e7 : (r != 65535) = true := by simp; omega
  clear h1 h2
  go_enter Tryz.func123, Tryz.ntmps123
  go_wp2
  go_ret
  exact ⟨rfl, rfl⟩
theorem Ascii.tail {t : ByteArray} (h : Ascii t) : Ascii (t.extract 1 t.size) := by
  intro i hi
  have hi2 : i < t.size - 1 := by simpa [ByteArray.size_extract] using hi
  have := h (1 + i) (by omega)
  rw [ByteArray.getElem_extract]
  exact this
def sizeS : Value → Nat
  | .string s => s.size
  | _ => 0
set_option maxRecDepth 100000 in
set_option maxHeartbeats 2000000 in
theorem valid_ascii (s : ByteArray) (w : World) (hs : Ascii s) (hl : s.size ≤ 8) : Calls Tryz.prog 124 #[.string s] w fun e w' => e = .returned (.bool true) ∧ w = w' := by
  have Hs := hide hs
  clear hs
  go_enter Tryz.func124, Tryz.ntmps124
  go_wp2_with fail
  go_loop [0] (fun v => ∃ t : ByteArray, v = .string t ∧ Hid (Ascii t) ∧ t.size ≤ 8) (fun v => sizeS v)
  case atStart => exact ⟨s, rfl, Hs, hl⟩
  case round =>
    obtain ⟨t, rfl, ht, htl⟩ := hrel
    by_cases h0 : 0 < t.size
    · have hI : (0 : Int) < t.size := by omega
      have hb := ht.out 0 h0
      have hb2 : ((t[0]'h0).toNat : Int) < 128 := by omega
      have hts : (t.extract 1 t.size).size = t.size - 1 := by simp [ByteArray.size_extract]
      have h8 : ¬ (8 : Int) < ((t.extract 1 t.size).size : Int) := by omega
      have ht2 := hide (Ascii.tail ht.out)
      clear hb
      go_wp2
      go_round
      case rel => exact ⟨_, rfl, ht2, by omega⟩
      case measure => simp [sizeS]; omega
    · have hI : ¬ (0 : Int) < t.size := by omega
      go_wp2
      go_ret
      exact ⟨rfl, rfl⟩
set_option maxRecDepth 100000 in
set_option maxHeartbeats 2000000 in
theorem texts_ascii (s : ByteArray) (w : World) (hs : Ascii s) (hl : s.size ≤ 8) : Calls Tryz.prog 66 #[.string s] w fun e w' => e = .returned (.bool true) ∧ Below w.heap.size w w' := by
  have Hs := hide hs
  clear hs
  go_enter Tryz.func66, Tryz.ntmps66
  go_wp2_with fail
  go_loopw [4] (fun _ W => ∃ k : Nat, k ≤ s.size ∧ W.heap[w.heap.size]? = some (.stringIter s k) ∧ Below w.heap.size w W) (fun _ W => s.size - W.iterPos w.heap.size)
  case atStart => exact ⟨0, Nat.zero_le _, heap_new _ _ _ rfl, (Below.refl _ _).alloc (Nat.le_refl _) _⟩
  case round =>
    obtain ⟨k, hk, hit, hB⟩ := hrel
    by_cases hlt : k < s.size
    · have hb := Hs.out k hlt
      have hnx : ∀ ty, (Instr.next (.pointer (some ⟨w.heap.size, 0, none⟩)) true ty).run Tryz.prog wr = _ := fun ty => Lib.run_next_ascii_at wr w.heap.size s k ty hit hlt (by omega)
      have hit2 := Lib.iterAt_heap wr w.heap.size s k (k + 1) hit
      have hB2 := Lib.below_iterAt hB (k := w.heap.size) (Nat.le_refl _) s (k + 1)
      go_wp2_with fail
      refine (char_ascii _ _ (by omega) (by omega)).mono ?_
      rintro e W1 ⟨rfl, rfl⟩
      clear hnx
      go_wp2
      go_roundw
      case rel => exact ⟨k + 1, by omega, hit2, hB2⟩
      case measure =>
        have e1 : wr.iterPos w.heap.size = k := by simp [World.iterPos, hit]
        have e2 : (wr.iterAt w.heap.size s (k + 1)).iterPos w.heap.size = k + 1 := by simp [World.iterPos, hit2]
        rw [e1, e2]; omega
    · have hnx : ∀ ty, (Instr.next (.pointer (some ⟨w.heap.size, 0, none⟩)) true ty).run Tryz.prog wr = _ := fun ty => Lib.run_next_end_at wr w.heap.size s k ty hit hlt
      clear hk
      go_wp2_with fail
      refine (valid_ascii s _ Hs.out hl).mono ?_
      rintro e W1 ⟨rfl, rfl⟩
      go_wp2
      go_ret
      exact ⟨rfl, hB⟩
end Go.Proofs.YtmnmnnocgimcpaaGreatDoor
