/- chars.Char, chars.Texts at any text: what they answer hangs on the text alone. -/
import Derived.Test.YtmnmnnocgimcpaaGreatDoorTx
namespace Go.Proofs.YtmnmnnocgimcpaaGreatDoor
open Go.RowKit
/-- is a rune one of texts? -/
def chr (r : Int) : Bool := (r == 9 || r == 10 || r == 13) || (!(decide (r < 32) || (decide (55296 ≤ r) && decide (r ≤ 57343)) || decide (1114111 < r)) && (r != 65534 && r != 65535))
set_option maxRecDepth 100000 in
set_option maxHeartbeats 2000000 in
theorem char_any (r : Int) (w : World) : Calls Tryz.prog 123 #[.int .i32 r] w fun e w' => e = .returned (.bool (chr r)) ∧ w = w' := by
  by_cases h9 : r = 9
  · have f : (r == 9) = true := by simpa using h9
    have H : Hid (chr r = true) := by show chr r = true; simp [chr, h9]
    clear h9
    go_enter Tryz.func123, Tryz.ntmps123
    go_wp2
    go_ret
    exact ⟨by rw [H.out]; rfl, rfl⟩
  · by_cases h10 : r = 10
    · have f9 : (r == 9) = false := by simpa using h9
      have f : (r == 10) = true := by simpa using h10
      have H : Hid (chr r = true) := by show chr r = true; simp [chr, h10]
      clear h9 h10
      go_enter Tryz.func123, Tryz.ntmps123
      go_wp2
      go_ret
      exact ⟨by rw [H.out]; rfl, rfl⟩
    · by_cases h13 : r = 13
      · have f9 : (r == 9) = false := by simpa using h9
        have f10 : (r == 10) = false := by simpa using h10
        have f : (r == 13) = true := by simpa using h13
        have H : Hid (chr r = true) := by show chr r = true; simp [chr, h13]
        clear h9 h10 h13
        go_enter Tryz.func123, Tryz.ntmps123
        go_wp2
        go_ret
        exact ⟨by rw [H.out]; rfl, rfl⟩
      · by_cases h32 : r < 32
        · have H : Hid (chr r = false) := by show chr r = false; simp [chr, h9, h10, h13, h32]
          have f9 : (r == 9) = false := by simpa using h9
          have f10 : (r == 10) = false := by simpa using h10
          have f13 : (r == 13) = false := by simpa using h13
          clear h9 h10 h13
          go_enter Tryz.func123, Tryz.ntmps123
          go_wp2
          go_ret
          exact ⟨by rw [H.out]; rfl, rfl⟩
        · have d32 : decide (r < 32) = false := by simpa using h32
          by_cases hs1 : 55296 ≤ r
          · by_cases hs2 : r ≤ 57343
            · have H : Hid (chr r = false) := by show chr r = false; simp [chr, h9, h10, h13, hs1, hs2]
              have f9 : (r == 9) = false := by simpa using h9
              have f10 : (r == 10) = false := by simpa using h10
              have f13 : (r == 13) = false := by simpa using h13
              clear h9 h10 h13 h32
              go_enter Tryz.func123, Tryz.ntmps123
              go_wp2
              go_ret
              exact ⟨by rw [H.out]; rfl, rfl⟩
            · have ds2 : decide (r ≤ 57343) = false := by simpa using hs2
              by_cases hm : 1114111 < r
              · have H : Hid (chr r = false) := by show chr r = false; simp [chr, h9, h10, h13, hm]
                have f9 : (r == 9) = false := by simpa using h9
                have f10 : (r == 10) = false := by simpa using h10
                have f13 : (r == 13) = false := by simpa using h13
                clear h9 h10 h13 h32 hs2
                go_enter Tryz.func123, Tryz.ntmps123
                go_wp2
                go_ret
                exact ⟨by rw [H.out]; rfl, rfl⟩
              · have dm : decide (1114111 < r) = false := by simpa using hm
                by_cases he : r = 65534
                · have H : Hid (chr r = false) := by show chr r = false; simp [chr, he]
                  have fe : (r != 65534) = false := by simpa using he
                  have f9 : (r == 9) = false := by simpa using h9
                  have f10 : (r == 10) = false := by simpa using h10
                  have f13 : (r == 13) = false := by simpa using h13
                  clear h9 h10 h13 h32 hs2 hm he
                  go_enter Tryz.func123, Tryz.ntmps123
                  go_wp2
                  go_ret
                  exact ⟨by rw [H.out]; rfl, rfl⟩
                · by_cases hf : r = 65535
                  · have H : Hid (chr r = false) := by show chr r = false; simp [chr, hf]
                    have fe : (r != 65534) = true := by simpa using he
                    have ff : (r != 65535) = false := by simpa using hf
                    have f9 : (r == 9) = false := by simpa using h9
                    have f10 : (r == 10) = false := by simpa using h10
                    have f13 : (r == 13) = false := by simpa using h13
                    clear h9 h10 h13 h32 hs2 hm he hf
                    go_enter Tryz.func123, Tryz.ntmps123
                    go_wp2
                    go_ret
                    exact ⟨by rw [H.out]; rfl, rfl⟩
                  · have H : Hid (chr r = true) := by show chr r = true; simp [chr, h9, h10, h13, h32, hs2, hm, he, hf]
                    have fe : (r != 65534) = true := by simpa using he
                    have ff : (r != 65535) = true := by simpa using hf
                    have f9 : (r == 9) = false := by simpa using h9
                    have f10 : (r == 10) = false := by simpa using h10
                    have f13 : (r == 13) = false := by simpa using h13
                    clear h9 h10 h13 h32 hs2 hm he hf
                    go_enter Tryz.func123, Tryz.ntmps123
                    go_wp2
                    go_ret
                    exact ⟨by rw [H.out]; rfl, rfl⟩
          · have ds1 : decide (55296 ≤ r) = false := by simpa using hs1
            have hm : ¬ 1114111 < r := by omega
            have dm : decide (1114111 < r) = false := by simpa using hm
            have he : (r != 65534) = true := by simp; omega
            have hf : (r != 65535) = true := by simp; omega
            have H : Hid (chr r = true) := by
              show chr r = true
              have e1 : r ≠ 65534 := by omega
              have e2 : r ≠ 65535 := by omega
              simp [chr, h9, h10, h13, h32, hs1, hm, e1, e2]
            have f9 : (r == 9) = false := by simpa using h9
            have f10 : (r == 10) = false := by simpa using h10
            have f13 : (r == 13) = false := by simpa using h13
            clear h9 h10 h13 h32 hs1 hm
            go_enter Tryz.func123, Tryz.ntmps123
            go_wp2
            go_ret
            exact ⟨by rw [H.out]; rfl, rfl⟩
/-- all runes from pos on are of texts -/
def scan (s : ByteArray) : Nat → Nat → Bool
  | 0, _ => true
  | n + 1, pos => if pos < s.size then chr (Utf8.decode s pos).1 && scan s n (pos + (Utf8.decode s pos).2) else true
theorem scan_fuel (s : ByteArray) : ∀ (n m pos : Nat), s.size ≤ pos + n → s.size ≤ pos + m → scan s n pos = scan s m pos
  | 0, 0, _, _, _ => rfl
  | 0, m + 1, pos, h, _ => by unfold scan; rw [if_neg (by omega)]
  | n + 1, 0, pos, _, h => by unfold scan; rw [if_neg (by omega)]
  | n + 1, m + 1, pos, h1, h2 => by
    unfold scan
    by_cases h : pos < s.size
    · have := Lib.decode_width_pos s pos h
      rw [if_pos h, if_pos h, scan_fuel s n m _ (by omega) (by omega)]
    · rw [if_neg h, if_neg h]
/-- is a text right? -/
def tS (s : ByteArray) : Bool := scan s s.size 0 && vS s
theorem scan_step (s : ByteArray) (pos : Nat) (h : pos < s.size) : scan s s.size pos = (chr (Utf8.decode s pos).1 && scan s s.size (pos + (Utf8.decode s pos).2)) := by
  have := Lib.decode_width_pos s pos h
  rw [scan_fuel s s.size (s.size + 1) pos (by omega) (by omega)]
  conv => lhs; unfold scan
  rw [if_pos h]
theorem scan_end (s : ByteArray) (pos : Nat) (h : ¬ pos < s.size) : scan s s.size pos = true := by
  obtain ⟨n, hn⟩ : ∃ n, n = s.size := ⟨_, rfl⟩
  rw [← hn]
  match n with
  | 0 => rfl
  | n + 1 => unfold scan; rw [if_neg h]
set_option maxRecDepth 100000 in
set_option maxHeartbeats 2000000 in
theorem texts_any (s : ByteArray) (w : World) (ht8 : Tabs8 w) (hs : s.size < 9223372036854775807) : Calls Tryz.prog 66 #[.string s] w fun e w' => e = .returned (.bool (tS s)) ∧ Below w.heap.size w w' := by
  have T8 := hide ht8
  clear ht8
  go_enter Tryz.func66, Tryz.ntmps66
  go_wp2_with fail
  go_loopw [4] (fun _ W => ∃ k : Nat, Hid (scan s s.size k = scan s s.size 0) ∧ W.heap[w.heap.size]? = some (.stringIter s k) ∧ Below w.heap.size w W) (fun _ W => s.size - W.iterPos w.heap.size)
  case atStart => exact ⟨0, hide rfl, heap_new _ _ _ rfl, (Below.refl _ _).alloc (Nat.le_refl _) _⟩
  case round =>
    obtain ⟨k, hk, hit, hB⟩ := hrel
    by_cases hlt : k < s.size
    · have hnx : ∀ ty, (Instr.next (.pointer (some ⟨w.heap.size, 0, none⟩)) true ty).run Tryz.prog wr = _ := fun ty => Lib.run_next_any_at wr w.heap.size s k ty hit hlt
      have hst := scan_step s k hlt
      have hwd := Lib.decode_width_pos s k hlt
      rw [hk.out] at hst
      obtain ⟨r, hr⟩ : ∃ r : Nat, r = (Utf8.decode s k).1 := ⟨_, rfl⟩
      obtain ⟨d, hd⟩ : ∃ d : Nat, d = (Utf8.decode s k).2 := ⟨_, rfl⟩
      rw [← hr, ← hd] at hnx hst
      rw [← hd] at hwd
      have hit2 := Lib.iterAt_heap wr w.heap.size s k (k + d) hit
      have hB2 := Lib.below_iterAt hB (k := w.heap.size) (Nat.le_refl _) s (k + d)
      have Hst := hide hst
      clear hr hd hst hk
      go_wp2_with fail
      refine (char_any _ _).mono ?_
      rintro e W1 ⟨rfl, rfl⟩
      clear hnx
      by_cases hc : chr (r : Int) = true
      · have hc2 : Hid (scan s s.size (k + d) = scan s s.size 0) := by
          show _ = _
          have := Hst.out; rw [hc, Bool.true_and] at this; exact this.symm
        go_wp2
        go_roundw
        case rel => exact ⟨k + d, hc2, hit2, hB2⟩
        case measure =>
          have e1 : wr.iterPos w.heap.size = k := by simp [World.iterPos, hit]
          have e2 : (wr.iterAt w.heap.size s (k + d)).iterPos w.heap.size = k + d := by simp [World.iterPos, hit2]
          rw [e1, e2]; omega
      · have hc1 : chr (r : Int) = false := by simpa using hc
        have hc2 : Hid (tS s = false) := by
          show tS s = false
          have := Hst.out; rw [hc1, Bool.false_and] at this; unfold tS; rw [this]; rfl
        clear hc Hst
        go_wp2
        go_ret
        exact ⟨by rw [hc2.out]; rfl, hB2⟩
    · have hnx : ∀ ty, (Instr.next (.pointer (some ⟨w.heap.size, 0, none⟩)) true ty).run Tryz.prog wr = _ := fun ty => Lib.run_next_end_at wr w.heap.size s k ty hit hlt
      have hsc : Hid (tS s = vS s) := by
        show tS s = vS s
        unfold tS; rw [← hk.out, scan_end s k hlt, Bool.true_and]
      clear hk
      go_wp2_with fail
      refine (valid_any s _ (T8.out.keep hB) hs).mono ?_
      rintro e W1 ⟨rfl, hb1⟩
      have hB1 := chain0 hB hb1
      go_wp2
      go_ret
      exact ⟨by rw [hsc.out]; rfl, hB1⟩
end Go.Proofs.YtmnmnnocgimcpaaGreatDoor
