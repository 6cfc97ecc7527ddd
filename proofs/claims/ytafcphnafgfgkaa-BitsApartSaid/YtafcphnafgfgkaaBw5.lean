/- Contract of bits: Text. -/
import Derived.Test.YtafcphnafgfgkaaBw4
import Derived.Test.YtafcphnafgfgkaaBld
namespace Go.Proofs.Ytafcphnafgfgkaa
open Go.RowKit Bm
theorem tx_snoc_cells (l : List Bool) (k : Nat) (h : k < l.length) : Lib.byteCells (tx (l.take k)) ++ [.int .u8 (if l.getD k false then 49 else 48)] = Lib.byteCells (tx (l.take (k + 1))) := by
  rw [take_snoc l k h]
  cases l.getD k false <;> simp [tx, Lib.byteCells]
set_option maxRecDepth 100000 in
set_option maxHeartbeats 400000 in
theorem text_nil (w : World) :
    Calls Try.prog 16 #[bitsV []] w fun e w' => e = .returned (.string ⟨#[]⟩) ∧ Below w.heap.size w w' := by
  rw [show bitsV [] = .agg #[.string (pk []), .int .i64 0] from rfl]
  go_enter Try.func16, Try.ntmps16
  go_wp2_with fail
  refine wp_loop_rounds 1 ?_
  rw [rounds_succ]
  go_wp2_with (go_at_call 37; refine (bs_nil w.heap.size (w.heap.size + 1) (.pointer none) _ ?c1).mono ?_)
  case c1 => simp [blk_alloc_at]
  rintro e w1 ⟨rfl, hb1⟩
  go_wp2
  go_ret
  exact ⟨rfl, (((Below.refl _ _).alloc (Nat.le_refl _) _).alloc (by simp) _).trans hb1⟩
set_option maxRecDepth 100000 in
set_option maxHeartbeats 400000 in
theorem text_ok (l : List Bool) (w : World) (hl : l.length ≤ 1048576) (h0 : l ≠ []) :
    Calls Try.prog 16 #[bitsV l] w fun e w' => e = .returned (.string (txS l)) ∧ Below w.heap.size w w' := by
  rw [show bitsV l = .agg #[.string (pk l), .int .i64 (l.length : Int)] from rfl]
  have H0 := hide h0
  clear h0
  go_enter Try.func16, Try.ntmps16
  go_wp2_with fail
  go_loopw [7] (fun x wr => ∃ k : Nat, k ≤ l.length ∧ x = .int .i64 k ∧ Blk wr w.heap.size 26 #[.string (pk l), .int .i64 l.length] ∧
      Lib.IsBuilder 60 5 (w.heap.size + 1) (w.heap.size + 1) (Lib.byteCells (tx (l.take k))) wr ∧ Below w.heap.size w wr) (fun x _ => l.length - (intOf x).toNat)
  case atStart =>
    refine ⟨0, Nat.zero_le _, rfl, ?_, ?_, ?_⟩
    · exact (Blk.new w _ _).alloc _
    · exact bld_fresh _ _ _ (Nat.le_refl _) (by simp [blk_alloc_at])
    · exact ((Below.refl _ _).alloc (Nat.le_refl _) _).alloc (by simp) _
  case round =>
    obtain ⟨k, hk, rfl, h1, hI, hb⟩ := hrel
    by_cases hlt : k < l.length
    · have hc0 := h1.cell 0
      have hc1 := h1.cell 1
      simp only [List.getElem?_toArray, List.getElem?_cons_zero, List.getElem?_cons_succ] at hc0 hc1
      have hsn := hide (tx_snoc_cells l k hlt)
      have hlen : (Lib.byteCells (tx (l.take k))).length ≤ 1048576 := by simp [Lib.byteCells, tx]; omega
      by_cases hbit : l.getD k false = true
      · have Hbit := hide hbit
        clear hbit
        go_wp2_with fail
        refine (at_one l k _ hlt hl Hbit.out).mono ?_
        rintro e w5 ⟨rfl, hb5⟩
        have h15 := h1.keep hb5
        have hI5 := bld_keep hI hb5
        have hb6 := chain hb (by have := h1.lt; omega) hb5
        clear h1 hI hb hc0 hc1 hb5
        go_wp2_with (go_at_call 36; refine (wb_any (w.heap.size + 1) (w.heap.size + 1) _ _ _ hI5 (by omega) (by have := bld_lt hI5; omega)).mono ?_)
        rintro e w6 ⟨rfl, hI6, hb7⟩
        go_wp2
        go_roundw
        case rel =>
          refine ⟨k + 1, by omega, by go_num, h15.below hb7 (by omega), ?_, hb6.trans (hb7.mono (by omega))⟩
          have := hsn.out
          rw [Hbit.out] at this
          rw [← this]
          exact .inr hI6
        case measure => simp [intOf]; omega
      · have Hbit : Hid (l.getD k false = false) := by show l.getD k false = false; simpa using hbit
        clear hbit
        go_wp2_with fail
        refine (at_zero l k _ hlt hl Hbit.out).mono ?_
        rintro e w5 ⟨rfl, hb5⟩
        have h15 := h1.keep hb5
        have hI5 := bld_keep hI hb5
        have hb6 := chain hb (by have := h1.lt; omega) hb5
        clear h1 hI hb hc0 hc1 hb5
        go_wp2_with (go_at_call 36; refine (wb_any (w.heap.size + 1) (w.heap.size + 1) _ _ _ hI5 (by omega) (by have := bld_lt hI5; omega)).mono ?_)
        rintro e w6 ⟨rfl, hI6, hb7⟩
        go_wp2
        go_roundw
        case rel =>
          refine ⟨k + 1, by omega, by go_num, h15.below hb7 (by omega), ?_, hb6.trans (hb7.mono (by omega))⟩
          have := hsn.out
          rw [Hbit.out] at this
          rw [← this]
          exact .inr hI6
        case measure => simp [intOf]; omega
    · have hI' : Lib.IsBuilder 60 5 (w.heap.size + 1) (w.heap.size + 1) (Lib.byteCells (tx l)) wr := by
        rw [show k = l.length from by omega, List.take_length] at hI; exact hI
      clear hI
      go_wp2_with (go_at_call 37; refine (bs_any (w.heap.size + 1) (w.heap.size + 1) (tx l) _ hI' (by have := H0.out; simpa [tx] using this)).mono ?_)
      rintro e w1 ⟨rfl, hb1⟩
      go_wp2
      go_ret
      exact ⟨rfl, hb.trans (hb1.mono (by omega))⟩
theorem text_any (l : List Bool) (w : World) (hl : l.length ≤ 1048576) :
    Calls Try.prog 16 #[bitsV l] w fun e w' => e = .returned (.string (txS l)) ∧ Below w.heap.size w w' := by
  by_cases h : l = []
  · subst h; exact text_nil w
  · exact text_ok l w hl h
end Go.Proofs.Ytafcphnafgfgkaa
