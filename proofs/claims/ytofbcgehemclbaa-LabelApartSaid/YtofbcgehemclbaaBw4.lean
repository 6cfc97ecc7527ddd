/- Contract of Cut. -/
import Derived.Test.YtofbcgehemclbaaBw3
namespace Go.Proofs.Ytofbcgehemclbaa
open Go.RowKit Bm
set_option maxRecDepth 100000 in
set_option maxHeartbeats 400000 in
theorem cut_no (l : List Bool) (i j : Int) (w : World) (hl : l.length ≤ 1048576) (h : i < 0 ∨ j < i ∨ (l.length : Int) < j) :
    Calls Try.prog 49 #[bitsV l, .int .i64 i, .int .i64 j] w fun e w' => e = .returned (.tuple #[bitsV [], .bool false]) ∧ Below w.heap.size w w' := by
  have hend : Below w.heap.size w ((w.alloc (.cells #[.string (pk l), .int .i64 l.length] 50)).alloc (.cells #[.string ⟨#[]⟩, .int .i64 0] 50)) :=
    ((Below.refl _ _).alloc (Nat.le_refl _) _).alloc (by simp) _
  by_cases h1 : i < 0
  · have h2 : True := trivial
    unfold bitsV
    go_enter Try.func49, Try.ntmps49
    go_wp2
    exact bodyPost_ret (v := .tuple #[.agg #[.string ⟨#[]⟩, .int .i64 0], .bool false]) (by simp [results, Try.results49, go_sem]) rfl ⟨rfl, hend⟩
  · have h1' : 0 ≤ i := by omega
    by_cases h2 : j < i
    · clear h h1
      unfold bitsV
      go_enter Try.func49, Try.ntmps49
      go_wp2
      exact bodyPost_ret (v := .tuple #[.agg #[.string ⟨#[]⟩, .int .i64 0], .bool false]) (by simp [results, Try.results49, go_sem]) rfl ⟨rfl, hend⟩
    · have h2' : i ≤ j := by omega
      have h3 : (l.length : Int) < j := by omega
      clear h h1 h2
      unfold bitsV
      go_enter Try.func49, Try.ntmps49
      go_wp2
      exact bodyPost_ret (v := .tuple #[.agg #[.string ⟨#[]⟩, .int .i64 0], .bool false]) (by simp [results, Try.results49, go_sem]) rfl ⟨rfl, hend⟩
set_option maxRecDepth 100000 in
set_option maxHeartbeats 1000000 in
theorem cut_ok (l : List Bool) (i n : Nat) (w : World) (hl : l.length ≤ 1048576) (h : i + n ≤ l.length) :
    Calls Try.prog 49 #[bitsV l, .int .i64 i, .int .i64 (i + n)] w fun e w' => e = .returned (.tuple #[bitsV ((l.drop i).take n), .bool true]) ∧ Below w.heap.size w w' := by
  have hsub : (i : Int) + n - i = n := by omega
  have hmk := of_mk n (by omega)
  obtain ⟨m, hm⟩ : ∃ m, m = (l.drop i).take n := ⟨_, rfl⟩
  have hml : m.length = n := by rw [hm, List.length_take, List.length_drop]; omega
  have hmg : ∀ k, k < n → m.getD k false = l.getD (i + k) false := by
    intro k hk
    simp only [hm, List.getD_eq_getElem?_getD, List.getElem?_take, List.getElem?_drop, if_pos hk]
  rw [← hm]
  have Hml := hide hml
  have Hmg := hide hmg
  clear hm hml hmg
  rw [show bitsV l = .agg #[.string (pk l), .int .i64 (l.length : Int)] from rfl]
  have h1 : (0 : Int) ≤ i := by omega
  have h2 : (i : Int) ≤ i + n := by omega
  have h3 : (i : Int) + n ≤ l.length := by omega
  go_enter Try.func49, Try.ntmps49
  go_wp2_with fail
  go_loopw [33] (fun x wr => ∃ k : Nat, k ≤ n ∧ x = .int .i64 k ∧ Bk wr (w.heap.size + 1 + 1) (wk (m.take k) (nb n)) ∧
      Blk wr w.heap.size 50 #[.string (pk l), .int .i64 l.length] ∧
      Blk wr (w.heap.size + 1) 50 #[.string ⟨#[]⟩, .int .i64 0] ∧ Below w.heap.size w wr) (fun x _ => n - (intOf x).toNat)
  case atStart =>
    refine ⟨0, Nat.zero_le _, rfl, ?_, ?_, ?_, ?_⟩
    · rw [List.take_zero, wk_nil]; simp [Bk, blk_alloc_at, zeros]
    · exact ((Blk.new w _ _).alloc _).alloc _
    · simp [blk_alloc_at]
    · exact (((Below.refl _ _).alloc (Nat.le_refl _) _).alloc (by simp) _).alloc (by simp; omega) _
  case round =>
    obtain ⟨k, hk, rfl, hbk, h0, h1, hb⟩ := hrel
    by_cases hlt : k < n
    · have hc0 := h0.cell 0
      have hc1 := h0.cell 1
      simp only [List.getElem?_toArray, List.getElem?_cons_zero, List.getElem?_cons_succ] at hc0 hc1
      by_cases hbit : m.getD k false = true
      · have Hbit := hide hbit
        clear hbit
        go_wp2_with fail
        refine (at_oneZ l _ (i + k) _ (by omega) (by omega) hl (by rw [← Hmg.out k hlt]; exact Hbit.out)).mono ?_
        rintro e w5 ⟨rfl, hb5⟩
        have hbk5 : Bk w5 _ _ := hbk.keep hb5
        have h05 := h0.keep hb5
        have h15 := h1.keep hb5
        have hb6 := chain hb (by have := h1.lt; omega) hb5
        clear hbk h0 h1 hb hc0 hc1 hb5
        have hg1 : w5.cell? ⟨w.heap.size + 1 + 1, k / 8, none⟩ = some (.int .u8 (byteN (m.take k) (k / 8) : Nat)) := by
          have := Bk.cell hbk5 (k / 8) (by rw [length_wk]; unfold nb; omega)
          rw [this, wk_get]
        have hg2 : w5.frozen? ⟨w.heap.size + 1 + 1, k / 8, none⟩ = false := Blk.frozen hbk5 _
        have hi1 : (0 : Int) ≤ (k : Int) / 8 := by omega
        have hi2 : (k : Int) / 8 < (nb n : Int) := by unfold nb; omega
        have hi3 : ((k : Int) / 8).toNat = k / 8 := by omega
        go_wp2
        go_region
        go_wp2
        go_roundw
        case rel =>
          have hl : (m.take k).length = k := by have := Hml.out; simp; omega
          refine ⟨k + 1, by omega, by go_num, ?_, h05.far (by dsimp only; omega) _, h15.far (by dsimp only; omega) _, (hb6.setCell (by dsimp only; omega) _).drew⟩
          rw [take_snoc m k (by have := Hml.out; omega), Hbit.out, wk_snoc_true, bit_or (m.take k) k hl]
          have := Bk.set_ hbk5 (k / 8) (UInt8.ofNat (byteN (m.take k) (k / 8) ||| (128 / 2 ^ ((m.take k).length % 8))))
          rw [toNat_or_byte] at this
          rw [show (m.take k).length / 8 = k / 8 from by rw [hl]]
          exact this
        case measure => simp [intOf]; omega
      · have Hbit : Hid (m.getD k false = false) := by show m.getD k false = false; simpa using hbit
        clear hbit
        go_wp2_with fail
        refine (at_zeroZ l _ (i + k) _ (by omega) (by omega) hl (by rw [← Hmg.out k hlt]; exact Hbit.out)).mono ?_
        rintro e w5 ⟨rfl, hb5⟩
        have hbk5 : Bk w5 _ _ := hbk.keep hb5
        have h05 := h0.keep hb5
        have h15 := h1.keep hb5
        have hb6 := chain hb (by have := h1.lt; omega) hb5
        clear hbk h0 h1 hb hc0 hc1 hb5
        go_wp2
        go_roundw
        case rel =>
          refine ⟨k + 1, by omega, by go_num, ?_, h05, h15, hb6⟩
          rw [take_snoc m k (by have := Hml.out; omega), Hbit.out, wk_snoc_false]
          exact hbk5
        case measure => simp [intOf]; omega
    · have hbk' : Bk wr (w.heap.size + 1 + 1) (wk m (nb n)) := by
        have hk' : k = m.length := by have := Hml.out; omega
        rw [hk', List.take_length] at hbk; exact hbk
      have hstr := hbk'.str (nb n) (nb n) (by rw [length_wk])
      have hc0 := h1.cell 0
      have hc1 := h1.cell 1
      have hf0 := h1.frozen 0
      have hf1 := h1.frozen 1
      simp only [List.getElem?_toArray, List.getElem?_cons_zero, List.getElem?_cons_succ] at hc0 hc1
      clear hbk h0
      go_wp2
      have hpk : (⟨(wk m (nb n)).toArray⟩ : ByteArray) = pk m := by
        rw [pk, pkL, Hml.out]
      have hend := (h1.set_ 0 (.string ⟨(wk m (nb n)).toArray⟩)).set_ 1 (.int .i64 n)
      have he0 := hend.cell 0
      have he1 := hend.cell 1
      simp only [List.setIfInBounds_toArray, List.set_cons_zero, List.set_cons_succ, List.getElem?_toArray, List.getElem?_cons_zero, List.getElem?_cons_succ] at he0 he1
      refine bodyPost_ret (v := .tuple #[.agg #[.string ⟨(wk m (nb n)).toArray⟩, .int .i64 n], .bool true]) (by simp [results, Try.results49, go_sem, he0, he1]) rfl ⟨?_, (hb.setCell (by dsimp only; omega) _).setCell (by dsimp only; omega) _⟩
      rw [hpk, bitsV, Hml.out]
theorem cut_okZ (l : List Bool) (x y : Int) (i n : Nat) (w : World) (hx : x = i) (hy : y = (i : Int) + n) (hl : l.length ≤ 1048576) (h : i + n ≤ l.length) :
    Calls Try.prog 49 #[bitsV l, .int .i64 x, .int .i64 y] w fun e w' => e = .returned (.tuple #[bitsV ((l.drop i).take n), .bool true]) ∧ Below w.heap.size w w' := by
  subst hx hy; exact cut_ok l i n w hl h
end Go.Proofs.Ytofbcgehemclbaa
