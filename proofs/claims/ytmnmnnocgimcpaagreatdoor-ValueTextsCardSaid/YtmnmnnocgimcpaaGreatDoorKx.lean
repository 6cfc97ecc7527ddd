/- strings.ContainsAny at tab, line feed and carriage return, where none stands in a right text; strings.Trim where nothing is to be cut. -/
import Derived.Test.YtmnmnnocgimcpaaGreatDoorKI
import Derived.Shelf.Abstract
namespace Go.Proofs.YtmnmnnocgimcpaaGreatDoor
open Go.RowKit
theorem trim_is (t : ByteArray) (h : Lib.trimB t.data.toList 32 = t.data.toList) (hs : t.size ≤ 100000) (W : World) : Calls Tryz.prog 20 #[.string t, .string ⟨#[32]⟩] W fun e w' => e = .returned (.string t) ∧ Below W.heap.size W w' := by
  refine (Tryz.strings_Trim_one t 32 (by decide) W (by omega)).mono ?_
  rintro e w' ⟨rfl, hw⟩
  rw [h]
  refine ⟨by rw [← ba_of (s := t) rfl], ?_⟩
  rcases hw with rfl | rfl
  · exact Below.refl _ _
  · exact (Below.refl _ _).drew
set_option maxRecDepth 100000 in
set_option maxHeartbeats 4000000 in
theorem indexRune3_hi (x : Nat) (h128 : 128 ≤ x) (_hx : x ≤ 1114111) (W : World) : Calls Tryz.prog 83 #[.string ⟨#[9, 10, 13]⟩, .int .i32 x] W fun e w' => e = .returned (.int .i64 (-1)) ∧ Below W.heap.size W w' := by
  have f1 : decide ((x : Int) < 128) = false := decide_eq_false (by omega)
  have f2 : ¬ x < 128 := by omega
  by_cases hr : x = 65533
  · subst hr
    clear f1 f2
    have n0 : ∀ ty, (Instr.next (.pointer (some ⟨W.heap.size, 0, none⟩)) true ty).run Tryz.prog (W.iter ⟨#[9, 10, 13]⟩ 0) = .ok (.tuple #[.bool true, .int .i64 0, .int .i32 9]) (W.iter ⟨#[9, 10, 13]⟩ 1) := fun ty => run_next_ascii W ⟨#[9, 10, 13]⟩ 0 ty (by decide) (by decide)
    have n1 : ∀ ty, (Instr.next (.pointer (some ⟨W.heap.size, 0, none⟩)) true ty).run Tryz.prog (W.iter ⟨#[9, 10, 13]⟩ 1) = .ok (.tuple #[.bool true, .int .i64 1, .int .i32 10]) (W.iter ⟨#[9, 10, 13]⟩ 2) := fun ty => run_next_ascii W ⟨#[9, 10, 13]⟩ 1 ty (by decide) (by decide)
    have n2 : ∀ ty, (Instr.next (.pointer (some ⟨W.heap.size, 0, none⟩)) true ty).run Tryz.prog (W.iter ⟨#[9, 10, 13]⟩ 2) = .ok (.tuple #[.bool true, .int .i64 2, .int .i32 13]) (W.iter ⟨#[9, 10, 13]⟩ 3) := fun ty => run_next_ascii W ⟨#[9, 10, 13]⟩ 2 ty (by decide) (by decide)
    have n3 : ∀ ty, (Instr.next (.pointer (some ⟨W.heap.size, 0, none⟩)) true ty).run Tryz.prog (W.iter ⟨#[9, 10, 13]⟩ 3) = .ok (.tuple #[.bool false]) (W.iter ⟨#[9, 10, 13]⟩ 3) := fun ty => run_next_end W ⟨#[9, 10, 13]⟩ 3 ty (by decide)
    go_enter Tryz.func83, Tryz.ntmps83
    go_wp2_with fail
    refine wp_loop_rounds 5 ?_
    rw [rounds_succ]
    go_wp2_with fail
    rw [rounds_succ]
    go_wp2_with fail
    rw [rounds_succ]
    go_wp2_with fail
    rw [rounds_succ]
    go_wp2
    go_ret
    exact ⟨rfl, below_iterN (Below.refl _ _)⟩
  have f3 : ((x : Int) == 65533) = false := by simpa using (show (x : Int) ≠ 65533 by omega)
  rcases Bool.eq_false_or_eq_true (Lib.validRune (x : Int)) with hv | hv
  · obtain ⟨z, c, hzz, hz, hbt, hc1, hc2⟩ := enc_last x (valid_of hv) h128
    have Hv := hide hv
    clear hv hr
    rcases hzz with rfl | rfl | rfl
    · have hsz : (Utf8.encode (x : Int)).size = 2 := hz
      have hxl : ∀ W : World, (Instr.index 9 (.string (Utf8.encode (x : Int))) (.int .i64 (1 : Int))).run Tryz.prog W = .ok (.int .u8 (c : Int)) W := fun W => by
        rw [run_sx (Utf8.encode (x : Int)) 1 (by omega) 1 rfl W]
        rw [show bt (Utf8.encode (x : Int)) 1 = (c : Int) from hbt]
      have hxs : ∀ W : World, (Instr.index 9 (.string ⟨#[9, 10, 13]⟩) (.int .i64 (1 : Int))).run Tryz.prog W = .ok (.int .u8 10) W := fun W => by kernel_rfl
      have hne : ((10 : Int) == (c : Int)) = false := by simpa using (show (10 : Int) ≠ (c : Int) by omega)
      have hne2 : ((10 : Int) != (c : Int)) = true := by simpa using (show (10 : Int) ≠ (c : Int) by omega)
      have Hc1 := hide hc1
      have Hc2 := hide hc2
      clear hz hbt hc1 hc2
      go_enter Tryz.func83, Tryz.ntmps83
      go_wp2_with fail
      refine (Tryz.utf8_ValidRune (x : Int) _).mono ?_
      rintro e w1 ⟨rfl, hw1⟩
      rw [Hv.out]
      have hB1 : Below W.heap.size W w1 := by rw [hw1]; exact Below.refl _ _
      clear hw1
      go_wp2_with fail
      go_step3
      go_wp2_with fail
      refine wp_loop_rounds 3 ?_
      rw [rounds_succ]
      go_wp2_with fail
      (repeat go_step3)
      (try go_wp2_with fail)
      refine wp_region_later (by kernel_rfl) (by kernel_rfl) ?_
      repeat (go_big_quiet_step (fail))
      refine wpQuiet_nil ?_
      intro _ hw'
      obtain ⟨y2, hw''⟩ := hw'
      subst hw''
      have hB2 := chain0 hB1 y2.2
      clear hB1
      go_wp2_with fail
      refine wp_region_later (by kernel_rfl) (by kernel_rfl) ?_
      repeat (go_big_quiet_step ((go_at_call 135; exact later_of (ixByte_hi _ c Hc1.out Hc2.out (by decide) _))))
      refine wpQuiet_nil ?_
      intro _ hw'
      obtain ⟨y3, hw''⟩ := hw'
      subst hw''
      have hB3 := chain0 hB2 y3.2
      clear hB2
      go_wp2
      (try rw [Exit.noGoto_ret])
      (try simp only [Exit.inBlock, Exit.then])
      (try rw [Exit.noGoto_ret])
      (try simp only [Exit.inBlock])
      go_ret
      exact ⟨rfl, hB3⟩
    · have hsz : (Utf8.encode (x : Int)).size = 3 := hz
      have hxl : ∀ W : World, (Instr.index 9 (.string (Utf8.encode (x : Int))) (.int .i64 (2 : Int))).run Tryz.prog W = .ok (.int .u8 (c : Int)) W := fun W => by
        rw [run_sx (Utf8.encode (x : Int)) 2 (by omega) 2 rfl W]
        rw [show bt (Utf8.encode (x : Int)) 2 = (c : Int) from hbt]
      have hxs : ∀ W : World, (Instr.index 9 (.string ⟨#[9, 10, 13]⟩) (.int .i64 (2 : Int))).run Tryz.prog W = .ok (.int .u8 13) W := fun W => by kernel_rfl
      have hne : ((13 : Int) == (c : Int)) = false := by simpa using (show (13 : Int) ≠ (c : Int) by omega)
      have hne2 : ((13 : Int) != (c : Int)) = true := by simpa using (show (13 : Int) ≠ (c : Int) by omega)
      have Hc1 := hide hc1
      have Hc2 := hide hc2
      clear hz hbt hc1 hc2
      go_enter Tryz.func83, Tryz.ntmps83
      go_wp2_with fail
      refine (Tryz.utf8_ValidRune (x : Int) _).mono ?_
      rintro e w1 ⟨rfl, hw1⟩
      rw [Hv.out]
      have hB1 : Below W.heap.size W w1 := by rw [hw1]; exact Below.refl _ _
      clear hw1
      go_wp2_with fail
      go_step3
      go_wp2_with fail
      refine wp_loop_rounds 3 ?_
      rw [rounds_succ]
      go_wp2_with fail
      (repeat go_step3)
      (try go_wp2_with fail)
      refine wp_region_later (by kernel_rfl) (by kernel_rfl) ?_
      repeat (go_big_quiet_step (fail))
      refine wpQuiet_nil ?_
      intro _ hw'
      obtain ⟨y2, hw''⟩ := hw'
      subst hw''
      have hB2 := chain0 hB1 y2.2
      clear hB1
      go_wp2_with fail
      refine wp_region_later (by kernel_rfl) (by kernel_rfl) ?_
      repeat (go_big_quiet_step ((go_at_call 135; exact later_of (ixByte_hi _ c Hc1.out Hc2.out (by decide) _))))
      refine wpQuiet_nil ?_
      intro _ hw'
      obtain ⟨y3, hw''⟩ := hw'
      subst hw''
      have hB3 := chain0 hB2 y3.2
      clear hB2
      go_wp2
      (try rw [Exit.noGoto_ret])
      (try simp only [Exit.inBlock, Exit.then])
      (try rw [Exit.noGoto_ret])
      (try simp only [Exit.inBlock])
      go_ret
      exact ⟨rfl, hB3⟩
    · have hsz : (Utf8.encode (x : Int)).size = 4 := hz
      clear hz hbt hc1 hc2
      go_enter Tryz.func83, Tryz.ntmps83
      go_wp2_with fail
      refine (Tryz.utf8_ValidRune (x : Int) _).mono ?_
      rintro e w1 ⟨rfl, hw1⟩
      rw [Hv.out]
      have hB1 : Below W.heap.size W w1 := by rw [hw1]; exact Below.refl _ _
      clear hw1
      go_wp2_with fail
      go_step3
      go_wp2_with fail
      refine wp_loop_rounds 2 ?_
      rw [rounds_succ]
      go_wp2
      (try rw [Exit.noGoto_ret])
      (try simp only [Exit.inBlock])
      go_ret
      exact ⟨rfl, hB1⟩
  · have Hv := hide hv
    clear hv hr
    go_enter Tryz.func83, Tryz.ntmps83
    go_wp2_with fail
    refine (Tryz.utf8_ValidRune (x : Int) _).mono ?_
    rintro e w1 ⟨rfl, hw1⟩
    rw [Hv.out]
    have hB1 : Below W.heap.size W w1 := by rw [hw1]; exact Below.refl _ _
    clear hw1
    go_wp2
    go_ret
    exact ⟨rfl, hB1⟩
theorem ix3_low : ∀ x : Nat, x < 128 → x ≠ 9 ∧ x ≠ 10 ∧ x ≠ 13 → Lib.indexByte (⟨#[9, 10, 13]⟩ : ByteArray).data.toList ((x : Int)).toNat.toUInt8 = -1 := by decide +kernel
theorem indexRune3_no (x : Nat) (h : x ≠ 9 ∧ x ≠ 10 ∧ x ≠ 13) (hx : x ≤ 1114111) (W : World) : Calls Tryz.prog 83 #[.string ⟨#[9, 10, 13]⟩, .int .i32 x] W fun e w' => e = .returned (.int .i64 (-1)) ∧ Below W.heap.size W w' := by
  by_cases h1 : x < 128
  · refine (Tryz.strings_IndexRune_ascii ⟨#[9, 10, 13]⟩ (x : Int) W (by omega) (by omega)).mono ?_
    rintro e w' ⟨rfl, hw⟩
    rw [ix3_low x h1 h]
    exact ⟨rfl, by rw [hw]; exact Below.refl _ _⟩
  · exact indexRune3_hi x (by omega) hx W
set_option maxRecDepth 100000 in
set_option maxHeartbeats 4000000 in
theorem indexAny_no (s : ByteArray) (rs : List Nat) (ho : OkR rs) (hrs : s.data.toList = enc rs) (hn : ∀ r ∈ rs, r ≠ 9 ∧ r ≠ 10 ∧ r ≠ 13) (h8 : s.size ≤ 8) (w : World) :
    Calls Tryz.prog 54 #[.string s, .string ⟨#[9, 10, 13]⟩] w fun e w' => e = .returned (.int .i64 (-1)) ∧ Below w.heap.size w w' := by
  have h8z : decide ((8 : Int) < (s.size : Int)) = false := decide_eq_false (by omega)
  have H0 : Hid (∃ r2 : List Nat, OkR r2 ∧ s.data.toList.drop 0 = enc r2 ∧ ∀ r ∈ r2, r ≠ 9 ∧ r ≠ 10 ∧ r ≠ 13) := ⟨rs, ho, by rw [List.drop_zero, hrs], hn⟩
  clear ho hrs hn h8
  go_enter Tryz.func54, Tryz.ntmps54
  go_wp2_with fail
  refine (Tryz.strings_shouldUseASCIISet _ _).mono ?_
  rintro e w1 ⟨rfl, hw1⟩
  rw [h8z]
  have hB1 : Below w.heap.size w w1 := by rw [hw1]; exact Below.refl _ _
  clear hw1
  go_wp2_with fail
  go_loopw [9, 10] (fun _ _ W => ∃ k : Nat, Hid (∃ r2 : List Nat, OkR r2 ∧ s.data.toList.drop k = enc r2 ∧ ∀ r ∈ r2, r ≠ 9 ∧ r ≠ 10 ∧ r ≠ 13) ∧ W.heap[w1.heap.size]? = some (.stringIter s k) ∧ Below w.heap.size w W) (fun _ _ W => s.size - W.iterPos w1.heap.size)
  case atStart => exact ⟨0, H0, heap_new _ _ _ rfl, hB1.alloc hB1.size _⟩
  case round =>
    have hw1s := hB1.size
    obtain ⟨k, hk, hit, hB⟩ := hrel
    obtain ⟨r2, ho, hr2, hn⟩ := hk.out
    cases r2 with
    | nil =>
      have hlt : ¬ k < s.size := drop_end' hr2
      have hnx : ∀ ty, (Instr.next (.pointer (some ⟨w1.heap.size, 0, none⟩)) true ty).run Tryz.prog wr = _ := fun ty => Lib.run_next_end_at wr w1.heap.size s k ty hit hlt
      go_wp2
      go_ret
      exact ⟨rfl, hB⟩
    | cons r t =>
      obtain ⟨h1, hlt, h3⟩ := dec_enc (ho r (by simp)) (show _ = Lib.encodeRune (r : Int) ++ enc t from hr2)
      have hnx : ∀ ty, (Instr.next (.pointer (some ⟨w1.heap.size, 0, none⟩)) true ty).run Tryz.prog wr = _ := fun ty => Lib.run_next_any_at wr w1.heap.size s k ty hit hlt
      rw [h1] at hnx
      dsimp only at hnx
      have hd1 := encR_pos (r : Int)
      have hrl := rchr_le (ho r (by simp))
      have Hnr := hide (hn r (by simp))
      generalize (Lib.encodeRune (r : Int)).length = d at hnx h3 hd1
      have Hk2 : Hid (∃ r2 : List Nat, OkR r2 ∧ s.data.toList.drop (k + d) = enc r2 ∧ ∀ r ∈ r2, r ≠ 9 ∧ r ≠ 10 ∧ r ≠ 13) := ⟨t, fun x hx => ho x (by simp [hx]), h3, fun x hx => hn x (by simp [hx])⟩
      have hit2 := Lib.iterAt_heap wr w1.heap.size s k (k + d) hit
      have hB2 := Lib.below_iterAt hB (k := w1.heap.size) hw1s s (k + d)
      clear h1 h3 ho hr2 hn hk
      go_wp2_with fail
      refine (indexRune3_no r Hnr.out (by omega) _).mono ?_
      rintro e W1 ⟨rfl, hb1⟩
      have hB3 := chain0 hB2 hb1
      have hit3 := heap_keep hit2 hb1
      have e1 : wr.iterPos w1.heap.size = k := by simp [World.iterPos, hit]
      have e2 : W1.iterPos w1.heap.size = k + d := by simp [World.iterPos, hit3]
      clear hnx hb1
      go_wp2
      go_roundw
      case rel => exact ⟨k + d, Hk2, hit3, hB3⟩
      case measure => rw [e1, e2]; omega
theorem runes_no {rs : List Nat} (h : ∀ b ∈ enc rs, b ≠ 9 ∧ b ≠ 10 ∧ b ≠ 13) : ∀ r ∈ rs, r ≠ 9 ∧ r ≠ 10 ∧ r ≠ 13 := by
  have key : ∀ (l : List Nat) (r : Nat), r ∈ l → r < 128 → ((r : Int)).toNat.toUInt8 ∈ enc l := by
    intro l
    induction l with
    | nil => intro r hr; cases hr
    | cons a t ih =>
      intro r hr h1
      rcases List.mem_cons.1 hr with e | hr
      · subst e
        exact List.mem_append_left _ (by rw [encR_one h1]; simp)
      · exact List.mem_append_right _ (ih r hr h1)
  intro r hr
  refine ⟨fun e => ?_, fun e => ?_, fun e => ?_⟩ <;> subst e
  · exact (h _ (key rs 9 hr (by decide))).1 rfl
  · exact (h _ (key rs 10 hr (by decide))).2.1 rfl
  · exact (h _ (key rs 13 hr (by decide))).2.2 rfl
set_option maxRecDepth 100000 in
set_option maxHeartbeats 1000000 in
theorem any_no (t : ByteArray) (h : ∀ b ∈ t.data.toList, b ≠ 9 ∧ b ≠ 10 ∧ b ≠ 13) (ht : tS t = true) (hs : t.size ≤ 100000) (W : World) : Calls Tryz.prog 19 #[.string t, .string ⟨#[9, 10, 13]⟩] W fun e w' => e = .returned (.bool false) ∧ Below W.heap.size W w' := by
  obtain ⟨rs, ho, hrs⟩ := tS_runes ht
  have Hi : Hid (∀ W : World, Calls Tryz.prog 54 #[.string t, .string ⟨#[9, 10, 13]⟩] W fun e w' => e = .returned (.int .i64 (-1)) ∧ Below W.heap.size W w') := by
    show ∀ W, _
    intro W
    by_cases h8 : t.size ≤ 8
    · exact indexAny_no t rs ho hrs (runes_no (by rw [← hrs]; exact h)) h8 W
    · refine (Tryz.strings_IndexAny_long (fun w => by kernel_rfl) t ⟨#[9, 10, 13]⟩ W (by decide) (by omega) (by omega) (by decide) (by
        intro j b hb
        match j, hb with
        | 0, hb => injection hb with hb; subst hb; decide
        | 1, hb => injection hb with hb; subst hb; decide
        | 2, hb => injection hb with hb; subst hb; decide)).mono ?_
      rintro e w' ⟨rfl, hw⟩
      refine ⟨?_, by rw [hw]; exact ((Below.refl _ _).alloc (Nat.le_refl _) _).alloc (by simp) _⟩
      rw [Lib.indexAny_none (fun j b _ hb => by
        have := h b (List.mem_of_getElem? hb)
        show List.contains [9, 10, 13] b = false
        simp [this.1, this.2.1, this.2.2])]
  clear h ht hs ho hrs
  go_enter Tryz.func19, Tryz.ntmps19
  go_wp2_with fail
  refine (Hi.out _).mono ?_
  rintro e w1 ⟨rfl, hb1⟩
  go_wp2
  go_ret
  exact ⟨rfl, hb1⟩
end Go.Proofs.YtmnmnnocgimcpaaGreatDoor
