/- Contract of bits.Of. -/
import Derived.Test.YtofbcgehemclbaaBw1
namespace Go.Proofs.Ytofbcgehemclbaa
open Go.RowKit Bm
theorem of_mk (n : Nat) (hn : n ≤ 1048576) (W : World) : (Instr.makeSlice 22 (.int .i64 (((n : Int) + 7) / 8)) (.int .i64 (((n : Int) + 7) / 8))).run Try.prog W = .ok (.slice (some ⟨W.heap.size, 0, none⟩) (nb n) (nb n)) (W.alloc (.cells (Lib.byteCells (zeros (nb n))).toArray 5)) := by
  rw [show (((n : Int) + 7) / 8) = ((nb n : Nat) : Int) from by unfold nb; omega]
  exact run_mk (nb n) (by unfold nb; omega) W
/-- the bit that is set -/
theorem bit_or (l : List Bool) (k : Nat) (hk : l.length = k) : bits BinOp.or .u8 ((byteN l (k / 8) : Nat) : Int) (128 / 2 ^ (k % 8)) = ((byteN l (k / 8) ||| (128 / 2 ^ (l.length % 8)) : Nat) : Int) := by
  subst hk
  have hb := byteN_lt l (l.length / 8)
  have e : ((128 : Int) / 2 ^ (l.length % 8)) = ((128 / 2 ^ (l.length % 8) : Nat) : Int) := by simp
  have h2 : 128 / 2 ^ (l.length % 8) < 256 := Nat.lt_of_le_of_lt (Nat.div_le_self _ _) (by omega)
  rw [e]
  generalize byteN l (l.length / 8) = x at *
  generalize 128 / 2 ^ (l.length % 8) = y at *
  have hx : (BitVec.ofInt 8 (x : Int)).toNat = x := by rw [BitVec.ofInt_natCast, BitVec.toNat_ofNat]; exact Nat.mod_eq_of_lt (by omega)
  have hy : (BitVec.ofInt 8 (y : Int)).toNat = y := by rw [BitVec.ofInt_natCast, BitVec.toNat_ofNat]; exact Nat.mod_eq_of_lt (by omega)
  have ho : x ||| y < 2 ^ 8 := Nat.or_lt_two_pow (by omega) (by omega)
  show IntKind.u8.wrap ((BitVec.ofInt 8 (x : Int) ||| BitVec.ofInt 8 (y : Int)).toNat : Int) = _
  rw [BitVec.toNat_or, hx, hy]
  have hw : ∀ n : Nat, n < 256 → IntKind.u8.wrap (n : Int) = (n : Int) := by
    intro n hn
    simp [IntKind.wrap, IntKind.bits, IntKind.signed]; omega
  exact hw _ ho
theorem toNat_or_byte (l : List Bool) (k y : Nat) : ((UInt8.ofNat (byteN l k ||| (128 / 2 ^ y))).toNat : Int) = ((byteN l k ||| (128 / 2 ^ y) : Nat) : Int) := by
  have h1 := byteN_lt l k
  have h2 : 128 / 2 ^ y < 256 := Nat.lt_of_le_of_lt (Nat.div_le_self _ _) (by omega)
  have h3 : byteN l k ||| (128 / 2 ^ y) < 2 ^ 8 := Nat.or_lt_two_pow (by omega) (by omega)
  rw [UInt8.toNat_ofNat', Nat.mod_eq_of_lt h3]
theorem iterPos_of {w : World} {g : Nat} {s : ByteArray} {k : Nat} (h : w.heap[g]? = some (.stringIter s k)) : w.iterPos g = k := by simp [World.iterPos, h]
def ofRes (l : List Bool) (s : ByteArray) : Value := if s.size = l.length then .tuple #[bitsV l, .bool true] else .tuple #[bitsV [], .bool false]
theorem pk_nil : pk [] = ⟨#[]⟩ := rfl
set_option maxRecDepth 100000 in
set_option maxHeartbeats 1000000 in
/-- a text whose first bytes say the row l, and that goes on, if it does, with another byte -/
theorem of_gen (l : List Bool) (s : ByteArray) (w : World) (hz1 : s.size ≤ 1048576) (hle : l.length ≤ s.size)
    (hget : ∀ (k : Nat) (h : k < s.size), k < l.length → s[k]'h = if l.getD k false then 49 else 48)
    (hbad : ∀ (h : l.length < s.size), s[l.length]'h ≠ 48 ∧ s[l.length]'h ≠ 49) :
    Calls Try.prog 35 #[.string s] w fun e w' => e = .returned (ofRes l s) ∧ Below w.heap.size w w' := by
  have Hg := hide hget
  have Hb := hide hbad
  clear hget hbad
  have hmk := of_mk s.size hz1
  go_enter Try.func35, Try.ntmps35
  go_wp2
  go_loopw [18] (fun _ wr => ∃ k, k ≤ l.length ∧ wr.heap[w.heap.size + 1 + 1]? = some (.stringIter s k) ∧ Bk wr (w.heap.size + 1) (wk (l.take k) (nb s.size)) ∧
      Blk wr w.heap.size 50 #[.string ⟨#[]⟩, .int .i64 0] ∧ Below w.heap.size w wr) (fun _ wr => l.length - wr.iterPos (w.heap.size + 1 + 1))
  case atStart =>
    refine ⟨0, Nat.zero_le _, ?_, ?_, ?_, ?_⟩
    · exact heap_new _ _ _ (by simp)
    · rw [List.take_zero, wk_nil]
      have := (Blk.new (w.alloc (.cells #[Value.string ⟨#[]⟩, .int .i64 0] 50)) 5 (Lib.byteCells (zeros (nb s.size))).toArray).alloc (.stringIter s 0)
      simpa [Bk, World.iter, zeros] using this
    · exact ((Blk.new w _ _).alloc _).alloc _
    · exact (((Below.refl _ _).alloc (Nat.le_refl _) _).alloc (by simp) _).alloc (by simp; omega) _
  case round =>
    obtain ⟨k, hk, hit, hbk, hr0, hb⟩ := hrel
    by_cases hlt' : k < l.length
    · have hlt : k < s.size := by omega
      have hnx : ∀ ty, (Instr.next (.pointer (some ⟨w.heap.size + 1 + 1, 0, none⟩)) true ty).run Try.prog wr = _ := fun ty => Lib.run_next_ascii_at wr (w.heap.size + 1 + 1) s k ty hit hlt (by rw [Hg.out k hlt hlt']; split <;> decide)
      have hit2 := Lib.iterAt_heap wr (w.heap.size + 1 + 1) s k (k + 1) hit
      have hbk2 := hbk.blk.iterAt (k := w.heap.size + 1 + 1) (by omega) s (k + 1)
      have hr2 := hr0.iterAt (k := w.heap.size + 1 + 1) (by omega) s (k + 1)
      have hb2 := Lib.below_iterAt hb (k := w.heap.size + 1 + 1) (by omega) s (k + 1)
      by_cases hbit : l.getD k false = true
      · have hc : ((s[k]'hlt).toNat : Int) = 49 := by rw [Hg.out k hlt hlt', if_pos hbit]; rfl
        rw [hc] at hnx
        have Hbit := hide hbit
        clear hbit hc
        have hg1 : (wr.iterAt (w.heap.size + 1 + 1) s (k + 1)).cell? ⟨w.heap.size + 1, k / 8, none⟩ = some (.int .u8 (byteN (l.take k) (k / 8) : Nat)) := by
          have := Bk.cell hbk2 (k / 8) (by rw [length_wk]; unfold nb; omega)
          rw [this, wk_get]
        have hg2 : (wr.iterAt (w.heap.size + 1 + 1) s (k + 1)).frozen? ⟨w.heap.size + 1, k / 8, none⟩ = false := hbk2.frozen _
        have hi1 : (0 : Int) ≤ (k : Int) / 8 := by omega
        have hi2 : (k : Int) / 8 < (nb s.size : Int) := by unfold nb; omega
        have hi3 : ((k : Int) / 8).toNat = k / 8 := by omega
        go_wp2
        go_region
        go_wp2
        go_roundw
        case rel =>
          refine ⟨k + 1, by omega, ?_, ?_, ?_, (hb2.setCell (by simp) _).drew⟩
          · exact heap_set hit2 (by simp) _
          · rw [take_snoc l k hlt', Hbit.out, wk_snoc_true, bit_or (l.take k) k (by simp; omega)]
            have := Bk.set_ hbk2 (k / 8) (UInt8.ofNat (byteN (l.take k) (k / 8) ||| (128 / 2 ^ ((l.take k).length % 8))))
            rw [toNat_or_byte] at this
            rw [show (l.take k).length / 8 = k / 8 from by rw [List.length_take]; congr 1; omega]
            exact this
          · exact hr2.far (by simp) _
        case measure =>
          have h1 : (wr.iterAt (w.heap.size + 1 + 1) s (k + 1)).heap[w.heap.size + 1 + 1]? = some (.stringIter s (k + 1)) := hit2
          have h2 := heap_set h1 (p := ⟨w.heap.size + 1, k / 8, none⟩) (by simp) (.int .u8 (bits BinOp.or .u8 ((byteN (l.take k) (k / 8) : Nat) : Int) (128 / 2 ^ (k % 8))))
          rw [iterPos_of hit, iterPos_of (w := (World.setCell _ _ _).drew) h2]
          omega
      · have hbf : l.getD k false = false := by simpa using hbit
        have hc : ((s[k]'hlt).toNat : Int) = 48 := by rw [Hg.out k hlt hlt', if_neg hbit]; rfl
        rw [hc] at hnx
        have Hbit := hide hbf
        clear hbit hbf hc
        go_wp2
        go_roundw
        case rel =>
          refine ⟨k + 1, by omega, hit2, ?_, hr2, hb2⟩
          rw [take_snoc l k hlt', Hbit.out, wk_snoc_false]
          exact hbk2
        case measure =>
          rw [iterPos_of hit, iterPos_of hit2]
          omega
    · have hbk' : Bk wr (w.heap.size + 1) (wk l (nb s.size)) := by
        have hk' : k = l.length := by omega
        rw [hk', List.take_length] at hbk; exact hbk
      have hc0 := hr0.cell 0
      have hc1 := hr0.cell 1
      have hf0 := hr0.frozen 0
      have hf1 := hr0.frozen 1
      simp only [List.getElem?_toArray, List.getElem?_cons_zero, List.getElem?_cons_succ] at hc0 hc1
      clear hbk
      by_cases hlt : k < s.size
      · have hnx : ∀ ty, (Instr.next (.pointer (some ⟨w.heap.size + 1 + 1, 0, none⟩)) true ty).run Try.prog wr = _ := fun ty => Lib.run_next_any_at wr (w.heap.size + 1 + 1) s k ty hit hlt
        have hne : Hid (s.size ≠ l.length) := by
          intro h; omega
        have hch : ((((Utf8.decode s k).1 : Nat) : Int) == 49) = false ∧ ((((Utf8.decode s k).1 : Nat) : Int) == 48) = false := by
          have hk' : k = l.length := by omega
          subst hk'
          have hb2 := Hb.out hlt
          by_cases ha : (s[l.length]'hlt).toNat < 128
          · rw [decode_ascii s _ hlt ha]
            have h1 : (s[l.length]'hlt).toNat ≠ 49 := fun e => hb2.2 (UInt8.toNat_inj.1 e)
            have h2 : (s[l.length]'hlt).toNat ≠ 48 := fun e => hb2.1 (UInt8.toNat_inj.1 e)
            constructor <;> (rw [beq_eq_false_iff_ne]; omega)
          · have := (decode_high s l.length hlt (by omega)).1
            constructor <;> (rw [beq_eq_false_iff_ne]; omega)
        obtain ⟨hch1, hch2⟩ := hch
        have hr2 := hr0.iterAt (k := w.heap.size + 1 + 1) (by omega) s (k + (Utf8.decode s k).2)
        have hb2 := Lib.below_iterAt hb (k := w.heap.size + 1 + 1) (by omega) s (k + (Utf8.decode s k).2)
        have hc0 := hr2.cell 0
        have hc1 := hr2.cell 1
        have hf0 := hr2.frozen 0
        have hf1 := hr2.frozen 1
        simp only [List.getElem?_toArray, List.getElem?_cons_zero, List.getElem?_cons_succ] at hc0 hc1
        generalize (((Utf8.decode s k).1 : Nat) : Int) = r at *
        generalize wr.iterAt (w.heap.size + 1 + 1) s (k + (Utf8.decode s k).2) = w2 at *
        clear hit hlt hle hlt'
        go_wp2
        have hend := (hr2.set_ 0 (.string ⟨#[]⟩)).set_ 1 (.int .i64 0)
        have he0 := hend.cell 0
        have he1 := hend.cell 1
        simp only [List.setIfInBounds_toArray, List.set_cons_zero, List.set_cons_succ, List.getElem?_toArray, List.getElem?_cons_zero, List.getElem?_cons_succ] at he0 he1
        refine bodyPost_ret (v := .tuple #[.agg #[.string ⟨#[]⟩, .int .i64 0], .bool false]) (by simp [results, Try.results35, go_sem, he0, he1]) rfl ⟨?_, (hb2.setCell (by simp) _).setCell (by simp) _⟩
        rw [ofRes, if_neg hne.out]
        rfl
      · have Hz : Hid (s.size = l.length) := by
          show s.size = l.length
          omega
        have hnx : ∀ ty, (Instr.next (.pointer (some ⟨w.heap.size + 1 + 1, 0, none⟩)) true ty).run Try.prog wr = _ := fun ty => Lib.run_next_end_at wr (w.heap.size + 1 + 1) s k ty hit hlt
        have hstr := hbk'.str (nb s.size) (nb s.size) (by rw [length_wk])
        clear hit hlt hle hlt'
        go_wp2
        have hpk : (⟨(wk l (nb s.size)).toArray⟩ : ByteArray) = pk l := by
          rw [Hz.out]; rfl
        have hend := (hr0.set_ 0 (.string ⟨(wk l (nb s.size)).toArray⟩)).set_ 1 (.int .i64 s.size)
        have he0 := hend.cell 0
        have he1 := hend.cell 1
        simp only [List.setIfInBounds_toArray, List.set_cons_zero, List.set_cons_succ, List.getElem?_toArray, List.getElem?_cons_zero, List.getElem?_cons_succ] at he0 he1
        refine bodyPost_ret (v := .tuple #[.agg #[.string ⟨(wk l (nb s.size)).toArray⟩, .int .i64 s.size], .bool true]) (by simp [results, Try.results35, go_sem, he0, he1]) rfl ⟨?_, (hb.setCell (by simp) _).setCell (by simp) _⟩
        rw [ofRes, if_pos Hz.out, hpk, Hz.out]
        rfl
theorem of_ok (l : List Bool) (w : World) (hn : l.length ≤ 1048576) :
    Calls Try.prog 35 #[.string (txS l)] w fun e w' => e = .returned (.tuple #[bitsV l, .bool true]) ∧ Below w.heap.size w w' := by
  have h := of_gen l (txS l) w (by rw [size_txS]; exact hn) (by rw [size_txS]; exact Nat.le_refl _) (fun k hk _ => txS_get l k hk) (fun h => by rw [size_txS] at h; omega)
  rw [ofRes, if_pos (size_txS l)] at h
  exact h
theorem of_bad (l : List Bool) (s : ByteArray) (w : World) (hz1 : s.size ≤ 1048576) (hle : l.length < s.size)
    (hget : ∀ (k : Nat) (h : k < s.size), k < l.length → s[k]'h = if l.getD k false then 49 else 48)
    (hbad : s[l.length]'hle ≠ 48 ∧ s[l.length]'hle ≠ 49) :
    Calls Try.prog 35 #[.string s] w fun e w' => e = .returned (.tuple #[bitsV [], .bool false]) ∧ Below w.heap.size w w' := by
  have h := of_gen l s w hz1 (by omega) hget (fun _ => hbad)
  rw [ofRes, if_neg (by omega)] at h
  exact h
set_option maxRecDepth 100000 in
set_option maxHeartbeats 400000 in
theorem of_long (s : ByteArray) (w : World) (h : 1048576 < s.size) (h2 : s.size ≤ 9223372036854775807) :
    Calls Try.prog 35 #[.string s] w fun e w' => e = .returned (.tuple #[bitsV [], .bool false]) ∧ Below w.heap.size w w' := by
  go_enter Try.func35, Try.ntmps35
  go_wp2
  refine bodyPost_ret (v := .tuple #[.agg #[.string ⟨#[]⟩, .int .i64 0], .bool false]) (by simp [results, Try.results35, go_sem]) rfl ⟨rfl, ?_⟩
  exact (Below.refl _ _).alloc (Nat.le_refl _) _
end Go.Proofs.Ytofbcgehemclbaa
