/- Contracts of And and Cut. -/
import Derived.Test.YtafcphnafgfgkaaBw2
namespace Go.Proofs.Ytafcphnafgfgkaa
open Go.RowKit Bm
set_option maxRecDepth 100000 in
set_option maxHeartbeats 400000 in
theorem and_long (l m : List Bool) (w : World) (hl : l.length ≤ 1048576) (hm : m.length ≤ 1048576) (h : 1048576 < l.length + m.length) :
    Calls Try.prog 14 #[bitsV l, bitsV m] w fun e w' => e = .returned (bitsV []) ∧ Below w.heap.size w w' := by
  unfold bitsV
  go_enter Try.func14, Try.ntmps14
  go_wp2
  refine bodyPost_ret (v := .agg #[.string ⟨#[]⟩, .int .i64 0]) (by simp [results, Try.results14, go_sem]) rfl ⟨rfl, ?_⟩
  exact (((Below.refl _ _).alloc (Nat.le_refl _) _).alloc (by simp) _).alloc (by simp; omega) _
set_option maxRecDepth 100000 in
set_option maxHeartbeats 1000000 in
theorem and_ok (l m : List Bool) (w : World) (h : l.length + m.length ≤ 1048576) :
    Calls Try.prog 14 #[bitsV l, bitsV m] w fun e w' => e = .returned (bitsV (l ++ m)) ∧ Below w.heap.size w w' := by
  have hmk : ∀ W : World, (Instr.makeSlice 24 (.int .i64 (((l.length : Int) + m.length + 7) / 8)) (.int .i64 (((l.length : Int) + m.length + 7) / 8))).run Try.prog W = .ok (.slice (some ⟨W.heap.size, 0, none⟩) (nb (l.length + m.length)) (nb (l.length + m.length))) (W.alloc (.cells (Lib.byteCells (zeros (nb (l.length + m.length)))).toArray 5)) := by
    intro W
    have := of_mk (l.length + m.length) h W
    rwa [Int.natCast_add] at this
  unfold bitsV
  go_enter Try.func14, Try.ntmps14
  go_wp2_with (with_reducible refine wpList_copy_str (g := w.heap.size + 1 + 1 + 1) rfl (.tmp 20) (.tmp 22) rfl _ _ (pk l) (zeros (nb (l.length + m.length))) rfl rfl ?c1 ?c2 ?c3 ?c4)
  case c1 =>
    have := Blk.new (((w.alloc (.cells #[.string (pk l), .int .i64 l.length] 26)).alloc (.cells #[.string (pk m), .int .i64 m.length] 26)).alloc (.cells #[.string ⟨#[]⟩, .int .i64 0] 26)) 5 (Lib.byteCells (zeros (nb (l.length + m.length)))).toArray
    simpa [Bk] using this
  case c2 => simp [zeros]
  case c3 => rw [size_pk]; unfold nb; omega
  case c4 =>
    intro w4 hbk4 hg4
    have hk4 : ∀ g o, g < w.heap.size + 1 + 1 + 1 → ((((w.alloc (.cells #[.string (pk l), .int .i64 l.length] 26)).alloc (.cells #[.string (pk m), .int .i64 m.length] 26)).alloc (.cells #[.string ⟨#[]⟩, .int .i64 0] 26)).alloc (.cells (Lib.byteCells (zeros (nb (l.length + m.length)))).toArray 5)).heap[g]? = some o → w4.heap[g]? = some o :=
      fun g o hlt h => (hg4.block g (by simp; omega) (by simp; omega)).trans h
    have h0 : Blk w4 w.heap.size 26 #[.string (pk l), .int .i64 l.length] := hk4 _ _ (by omega) ((((Blk.new w _ _).alloc _).alloc _).alloc _)
    have h1 : Blk w4 (w.heap.size + 1) 26 #[.string (pk m), .int .i64 m.length] := hk4 _ _ (by omega) (by
      have := ((Blk.new (w.alloc (.cells #[.string (pk l), .int .i64 l.length] 26)) 26 #[.string (pk m), .int .i64 m.length]).alloc (.cells #[.string ⟨#[]⟩, .int .i64 0] 26)).alloc (.cells (Lib.byteCells (zeros (nb (l.length + m.length)))).toArray 5)
      simpa [Blk] using this)
    have h2 : Blk w4 (w.heap.size + 1 + 1) 26 #[.string ⟨#[]⟩, .int .i64 0] := hk4 _ _ (by omega) (by
      have := (Blk.new ((w.alloc (.cells #[.string (pk l), .int .i64 l.length] 26)).alloc (.cells #[.string (pk m), .int .i64 m.length] 26)) 26 #[.string ⟨#[]⟩, .int .i64 0]).alloc (.cells (Lib.byteCells (zeros (nb (l.length + m.length)))).toArray 5)
      simpa [Blk] using this)
    have hb4 : Below w.heap.size w w4 := ((((Below.refl _ _).alloc (Nat.le_refl _) _).alloc (by simp) _).alloc (by simp; omega) _).trans (Below.grown ((Below.refl _ _).alloc (by simp; omega) _) hg4 (by simp; omega) (by simp; omega))
    have hbk : Bk w4 (w.heap.size + 1 + 1 + 1) (wk (l ++ m.take 0) (nb (l.length + m.length))) := by
      rw [List.take_zero, List.append_nil, ← wk_pk l (nb (l.length + m.length)) (by unfold nb; omega)]
      rw [size_pk] at hbk4
      exact hbk4
    clear hbk4 hg4 hk4
    have hc0 := h1.cell 1
    simp only [List.getElem?_toArray, List.getElem?_cons_zero, List.getElem?_cons_succ] at hc0
    go_wp2_with fail
    clear hc0
    go_loopw [26] (fun i wr => ∃ k : Nat, k ≤ m.length ∧ i = .int .i64 k ∧ Bk wr (w.heap.size + 1 + 1 + 1) (wk (l ++ m.take k) (nb (l.length + m.length))) ∧
        Blk wr w.heap.size 26 #[.string (pk l), .int .i64 l.length] ∧ Blk wr (w.heap.size + 1) 26 #[.string (pk m), .int .i64 m.length] ∧
        Blk wr (w.heap.size + 1 + 1) 26 #[.string ⟨#[]⟩, .int .i64 0] ∧ Below w.heap.size w wr) (fun i _ => m.length - (intOf i).toNat)
    case atStart => exact ⟨0, Nat.zero_le _, rfl, hbk, h0, h1, h2, hb4⟩
    case round =>
      clear hbk h0 h1 h2 hb4
      obtain ⟨k, hk, rfl, hbk, h0, h1, h2, hb⟩ := hrel
      by_cases hlt : k < m.length
      · have hc0 := h1.cell 0
        have hc1 := h1.cell 1
        simp only [List.getElem?_toArray, List.getElem?_cons_zero, List.getElem?_cons_succ] at hc0 hc1
        by_cases hbit : m.getD k false = true
        · go_wp2_with fail
          refine (at_one m k _ hlt (by omega) hbit).mono ?_
          rintro e w5 ⟨rfl, hb5⟩
          have hbk5 := hbk.keep hb5
          have h05 := h0.keep hb5
          have h15 := h1.keep hb5
          have h25 := h2.keep hb5
          have hb6 := chain hb (by have := h2.lt; omega) hb5
          clear hbk h0 h1 h2 hb hc0 hc1 hb5
          have hg0 := h05.cell 1
          simp only [List.getElem?_toArray, List.getElem?_cons_zero, List.getElem?_cons_succ] at hg0
          have hg1 : w5.cell? ⟨w.heap.size + 1 + 1 + 1, (l.length + k) / 8, none⟩ = some (.int .u8 (byteN (l ++ m.take k) ((l.length + k) / 8) : Nat)) := by
            have := Bk.cell hbk5 ((l.length + k) / 8) (by rw [length_wk]; unfold nb; omega)
            rw [this, wk_get]
          have hg2 : w5.frozen? ⟨w.heap.size + 1 + 1 + 1, (l.length + k) / 8, none⟩ = false := Blk.frozen hbk5 _
          have hi0 : IntKind.i64.wrap ((l.length : Int) + k) = (l.length : Int) + k := by rw [IntKind.wrap_i64]; omega
          have hi1 : (0 : Int) ≤ ((l.length : Int) + k) / 8 := by omega
          have hi2 : ((l.length : Int) + k) / 8 < (nb (l.length + m.length) : Int) := by unfold nb; omega
          have hi3 : (((l.length : Int) + k) / 8).toNat = (l.length + k) / 8 := by omega
          go_wp2
          go_region
          go_wp2
          go_roundw
          case rel =>
            refine ⟨k + 1, by omega, by go_num, ?_, h05.far (by dsimp only; omega) _, h15.far (by dsimp only; omega) _, h25.far (by dsimp only; omega) _, (hb6.setCell (by simp; omega) _).drew⟩
            have hl : (l ++ m.take k).length = l.length + k := by simp; omega
            have he : bits BinOp.or .u8 ((byteN (l ++ m.take k) ((l.length + k) / 8) : Nat) : Int) (128 / 2 ^ ((l.length + k) % 8)) = _ := bit_or (l ++ m.take k) (l.length + k) hl
            have hcast : (((l.length : Int) + k) % 8).toNat = (l.length + k) % 8 := by omega
            rw [take_snoc m k hlt, hbit, ← List.append_assoc, wk_snoc_true]
            have := Bk.set_ hbk5 ((l.length + k) / 8) (UInt8.ofNat (byteN (l ++ m.take k) ((l.length + k) / 8) ||| (128 / 2 ^ ((l ++ m.take k).length % 8))))
            rw [toNat_or_byte, ← he] at this
            rw [show (l ++ m.take k).length / 8 = (l.length + k) / 8 from by rw [hl]]
            exact this
          case measure => simp [intOf]; omega
        · have hbf : m.getD k false = false := by simpa using hbit
          go_wp2_with fail
          refine (at_zero m k _ hlt (by omega) hbf).mono ?_
          rintro e w5 ⟨rfl, hb5⟩
          have hbk5 := hbk.keep hb5
          have h05 := h0.keep hb5
          have h15 := h1.keep hb5
          have h25 := h2.keep hb5
          have hb6 := chain hb (by have := h2.lt; omega) hb5
          clear hbk h0 h1 h2 hb hc0 hc1 hb5 hbit
          have Hbit := hide hbf
          clear hbf
          go_wp2
          go_roundw
          case rel =>
            refine ⟨k + 1, by omega, by go_num, ?_, h05, h15, h25, hb6⟩
            rw [take_snoc m k hlt, Hbit.out, ← List.append_assoc, wk_snoc_false]
            exact hbk5
          case measure => simp [intOf]; omega
      · have hbk' : Bk wr (w.heap.size + 1 + 1 + 1) (wk (l ++ m) (nb (l.length + m.length))) := by
          have hk' : k = m.length := by omega
          rw [hk', List.take_length] at hbk; exact hbk
        have hstr := hbk'.str (nb (l.length + m.length)) (nb (l.length + m.length)) (by rw [length_wk])
        have hc0 := h2.cell 0
        have hc1 := h2.cell 1
        have hf0 := h2.frozen 0
        have hf1 := h2.frozen 1
        simp only [List.getElem?_toArray, List.getElem?_cons_zero, List.getElem?_cons_succ] at hc0 hc1
        clear hbk h0 h1
        go_wp2
        have hpk : (⟨(wk (l ++ m) (nb (l.length + m.length))).toArray⟩ : ByteArray) = pk (l ++ m) := by
          rw [pk, pkL, List.length_append]
        have hend := (h2.set_ 0 (.string ⟨(wk (l ++ m) (nb (l.length + m.length))).toArray⟩)).set_ 1 (.int .i64 (l.length + m.length))
        have he0 := hend.cell 0
        have he1 := hend.cell 1
        simp only [List.setIfInBounds_toArray, List.set_cons_zero, List.set_cons_succ, List.getElem?_toArray, List.getElem?_cons_zero, List.getElem?_cons_succ] at he0 he1
        refine bodyPost_ret (v := .agg #[.string ⟨(wk (l ++ m) (nb (l.length + m.length))).toArray⟩, .int .i64 (l.length + m.length)]) (by simp [results, Try.results14, go_sem, he0, he1]) rfl ⟨?_, (hb.setCell (by simp; omega) _).setCell (by simp; omega) _⟩
        rw [hpk, List.length_append, Int.natCast_add]
theorem and_any (l m : List Bool) (w : World) (hl : l.length ≤ 1048576) (hm : m.length ≤ 1048576) :
    Calls Try.prog 14 #[bitsV l, bitsV m] w fun e w' => e = .returned (bitsV (if l.length + m.length ≤ 1048576 then l ++ m else [])) ∧ Below w.heap.size w w' := by
  by_cases h : l.length + m.length ≤ 1048576
  · rw [if_pos h]; exact and_ok l m w h
  · rw [if_neg h]; exact and_long l m w hl hm (by omega)
end Go.Proofs.Ytafcphnafgfgkaa
