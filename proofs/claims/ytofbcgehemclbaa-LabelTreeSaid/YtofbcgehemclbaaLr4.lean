/- The reference of layer 3: less, more (the row above, of k bits). -/
import Derived.Test.YtofbcgehemclbaaLl1
import Derived.Test.YtofbcgehemclbaaLb9
import Derived.Test.YtofbcgehemclbaaBrc
namespace Go.Proofs.Ytofbcgehemclbaa
open Go.RowKit Bm Lib
/-- the first k bits, noughts behind -/
def padT (l : List Bool) (k : Nat) : List Bool := (List.range k).map fun i => l.getD i false
theorem length_padT (l : List Bool) (k : Nat) : (padT l k).length = k := by simp [padT]
theorem padT_succ (l : List Bool) (k : Nat) : padT l (k + 1) = padT l k ++ [l.getD k false] := by simp [padT, List.range_succ]
theorem padT_get (l : List Bool) (k i : Nat) (h : i < k) : (padT l k)[i]? = some (l.getD i false) := by simp [padT, h]
/-- the bytes while they are made -/
def mkT (l : List Bool) (i k : Nat) : List UInt8 := tx (padT l i) ++ zeros (k - i)
theorem mkT_len (l : List Bool) (i k : Nat) (h : i ≤ k) : (mkT l i k).length = k := by simp [mkT, length_tx, length_padT, zeros]; omega
theorem mkT_set (l : List Bool) (i k : Nat) (h : i < k) (u : UInt8) (hu : u = if l.getD i false then 49 else 48) : (mkT l i k).set i u = mkT l (i + 1) k := by
  unfold mkT
  rw [List.set_append_right _ _ (by rw [length_tx, length_padT]; exact Nat.le_refl _), length_tx, length_padT, Nat.sub_self, zeros, show k - i = (k - (i + 1)) + 1 from by omega, List.replicate_succ, List.set_cons_zero, padT_succ, tx, tx, List.map_append, hu, zeros, List.append_assoc]
  rfl
theorem mkT_set2 (l : List Bool) (i k : Nat) (h : i < k) (u v : UInt8) (hu : u = if l.getD i false then 49 else 48) : ((mkT l i k).set i v).set i u = mkT l (i + 1) k := by
  rw [List.set_set]; exact mkT_set l i k h u hu
theorem mkT_full (l : List Bool) (k : Nat) : mkT l k k = tx (padT l k) := by simp [mkT, zeros]
/-- the first j bits, noughts behind, and a one -/
def cand (l : List Bool) (j : Nat) : List Bool := padT l j ++ [true]
theorem length_cand (l : List Bool) (j : Nat) : (cand l j).length = j + 1 := by simp [cand, length_padT]
theorem cand_set (l : List Bool) (j : Nat) : (tx (padT l (j + 1))).set j 49 = tx (cand l j) := by
  rw [padT_succ, cand, tx, tx, List.map_append, List.map_append, List.set_append_right _ _ (by simp [length_padT])]
  simp [length_padT]
theorem rlessL (l m : List Bool) (X Y : ByteArray) (q : Bool) (w : World) (hl : l.length ≤ 1048576) (hm : m.length ≤ 1048576) (hX : X = txS l) (hY : Y = txS m) (hq : q = decide (lexB l m < 0)) :
    Calls Try.prog 43 #[.string X, .string Y] w fun e w' => e = .returned (.bool q) ∧ Below w.heap.size w w' := by
  have hc : ∀ W, Calls Try.prog 64 #[.string X, .string Y] W fun e w' => e = .returned (.int .i64 (lexB l m)) ∧ Below W.heap.size W w' := by
    subst hX hY; exact fun W => rcmp_any l m W hl hm
  have Hc := hide hc
  obtain ⟨z, hz⟩ : ∃ z, z = lexB l m := ⟨_, rfl⟩
  rw [← hz] at hq Hc
  clear hc hX hY hz
  have hB := Below.refl w.heap.size w
  subst hq
  go_enter Try.func43, Try.ntmps43
  go_wp2_with fail
  refine (Hc.out _).mono ?_
  rintro e w1 ⟨rfl, hb1⟩
  have hB2 : Below w.heap.size w w1 := by first | exact chain0 hB hb1 | exact chain1 hB hb1 | exact chain2 hB hb1 | exact chain3 hB hb1
  clear hB
  have hB := hB2
  clear hB2
  go_wp2
  go_ret
  exact ⟨rfl, hB⟩
set_option maxRecDepth 100000 in
set_option maxHeartbeats 1000000 in
/-- the next bit is a nought: the row with a one there -/
theorem more_yes (l : List Bool) (X Y : ByteArray) (j : Nat) (w : World) (hl : l.length ≤ 1048576) (hj : j ≤ 1048576) (hX : X = txS l) (hY : Y = txS (cand l j)) (hbit : l.getD j false = false) :
    Calls Try.prog 65 #[.string X, .int .i64 ((j : Int) + 1)] w fun e w' => e = .returned (.tuple #[.string Y, .bool true]) ∧ Below w.heap.size w w' := by
  have hmk := run_mk (j + 1) (by omega)
  rw [show ((j + 1 : Nat) : Int) = (j : Int) + 1 from by omega] at hmk
  have hXs : X.size = l.length := by rw [hX, size_txS]
  have hXg : ∀ (i : Nat) (h : i < X.size), X[i]'h = if l.getD i false then 49 else 48 := by subst hX; exact txS_get l
  have Hxs := hide hXs
  have Hxg := hide hXg
  have Hbit := hide hbit
  have HY := hide hY
  clear hX hXs hXg hbit hY
  go_enter Try.func65, Try.ntmps65
  go_wp2_with fail
  go_loopw [7] (fun x W => ∃ i : Nat, i ≤ j + 1 ∧ x = .int .i64 i ∧ Bk W w.heap.size (mkT l i (j + 1)) ∧ Below w.heap.size w W) (fun x _ => j + 1 - (intOf x).toNat)
  case atStart =>
    refine ⟨0, Nat.zero_le _, rfl, ?_, (Below.refl _ _).alloc (Nat.le_refl _) _⟩
    exact Blk.new w _ _
  case round =>
    obtain ⟨i, hi, rfl, hbk, hb⟩ := hrel
    by_cases hlt : i < j + 1
    · have hltI : (i : Int) < (j : Int) + 1 := by omega
      have hgc := hbk.cell i (by rw [mkT_len l i (j + 1) (by omega)]; exact hlt)
      have hgf := hbk.blk.frozen i
      by_cases hs : i < X.size
      · have hsI : (i : Int) < (X.size : Int) := by omega
        have hv := Hxg.out i hs
        have Hv := hide hv
        clear hv
        have hbk2 := hbk.set_ i 48
        have hgc2 := hbk2.cell i (by rw [List.length_set, mkT_len l i (j + 1) (by omega)]; exact hlt)
        have hgf2 := hbk2.blk.frozen i
        go_wp2
        go_roundw
        case rel =>
          refine ⟨i + 1, by omega, by go_num, ?_, ?_⟩
          · rw [← mkT_set2 l i (j + 1) hlt _ 48 Hv.out]
            exact hbk2.set_ i _
          · exact (hb.setCell (by simp) _).setCell (by simp) _
        case measure => simp [intOf]; omega
      · have hsI : ¬ (i : Int) < (X.size : Int) := by omega
        have hv : (48 : UInt8) = if l.getD i false then 49 else 48 := by rw [getD_ge l i (by have := Hxs.out; omega)]; rfl
        have Hv := hide hv
        clear hv
        go_wp2
        go_roundw
        case rel =>
          refine ⟨i + 1, by omega, by go_num, ?_, ?_⟩
          · rw [← mkT_set l i (j + 1) hlt _ Hv.out]
            exact hbk.set_ i 48
          · exact hb.setCell (by simp) _
        case measure => simp [intOf]; omega
    · have hi' : i = j + 1 := by omega
      subst hi'
      rw [mkT_full] at hbk
      have hltI : ¬ ((j + 1 : Nat) : Int) < (j : Int) + 1 := by omega
      have hgc := hbk.cell j (by rw [length_tx, length_padT]; omega)
      have hgv : (((tx (padT l (j + 1)))[j]'(by rw [length_tx, length_padT]; omega)).toNat : Int) = 48 := by
        have := tx_at (padT l (j + 1)) j false (by rw [length_tx, length_padT]; omega) (by rw [List.getD_eq_getElem?_getD, padT_get l _ _ (by omega), Hbit.out]; rfl)
        simpa using this
      rw [hgv] at hgc
      have hgf := hbk.blk.frozen j
      have hbk2 := hbk.set_ j 49
      rw [cand_set] at hbk2
      have hstr := hbk2.str (j + 1) (j + 1) (by rw [length_tx, length_cand])
      have hY : (⟨(tx (cand l j)).toArray⟩ : ByteArray) = Y := HY.out.symm
      rw [hY, show ((UInt8.toNat 49 : Nat) : Int) = 49 from rfl] at hstr
      clear hgv hY
      have hjc : (0 : Int) ≤ j := by omega
      go_wp2_with fail
      go_loopw [8] (fun x W => x = .int .i64 j ∧ W = wr) (fun _ _ => 0)
      case atStart => exact ⟨rfl, rfl⟩
      case round =>
        obtain ⟨rfl, rfl⟩ := hrel
        go_wp2
        go_ret2
        exact ⟨rfl, hb.setCell (by simp) _⟩
set_option maxRecDepth 100000 in
set_option maxHeartbeats 1000000 in
/-- the next bit is a one: no row, or one that ends with a nought -/
theorem more_no (l : List Bool) (X : ByteArray) (j : Nat) (w : World) (hl : l.length ≤ 1048576) (hj : j ≤ 1048576) (hX : X = txS l) (hbit : l.getD j false = true) :
    Calls Try.prog 65 #[.string X, .int .i64 ((j : Int) + 1)] w fun e w' =>
      (e = .returned (.tuple #[.string ⟨#[]⟩, .bool false]) ∨ ∃ Y : ByteArray, Y.size = j + 1 ∧ (∀ h : j < Y.size, Y[j]'h = 48) ∧ e = .returned (.tuple #[.string Y, .bool true])) ∧ Below w.heap.size w w' := by
  have hmk := run_mk (j + 1) (by omega)
  rw [show ((j + 1 : Nat) : Int) = (j : Int) + 1 from by omega] at hmk
  have hXs : X.size = l.length := by rw [hX, size_txS]
  have hXg : ∀ (i : Nat) (h : i < X.size), X[i]'h = if l.getD i false then 49 else 48 := by subst hX; exact txS_get l
  have Hxs := hide hXs
  have Hxg := hide hXg
  have Hbit := hide hbit
  clear hX hXs hXg hbit
  go_enter Try.func65, Try.ntmps65
  go_wp2_with fail
  go_loopw [7] (fun x W => ∃ i : Nat, i ≤ j + 1 ∧ x = .int .i64 i ∧ Bk W w.heap.size (mkT l i (j + 1)) ∧ Below w.heap.size w W) (fun x _ => j + 1 - (intOf x).toNat)
  case atStart =>
    refine ⟨0, Nat.zero_le _, rfl, ?_, (Below.refl _ _).alloc (Nat.le_refl _) _⟩
    exact Blk.new w _ _
  case round =>
    obtain ⟨i, hi, rfl, hbk, hb⟩ := hrel
    by_cases hlt : i < j + 1
    · have hltI : (i : Int) < (j : Int) + 1 := by omega
      have hgc := hbk.cell i (by rw [mkT_len l i (j + 1) (by omega)]; exact hlt)
      have hgf := hbk.blk.frozen i
      by_cases hs : i < X.size
      · have hsI : (i : Int) < (X.size : Int) := by omega
        have hv := Hxg.out i hs
        have Hv := hide hv
        clear hv
        have hbk2 := hbk.set_ i 48
        have hgc2 := hbk2.cell i (by rw [List.length_set, mkT_len l i (j + 1) (by omega)]; exact hlt)
        have hgf2 := hbk2.blk.frozen i
        go_wp2
        go_roundw
        case rel =>
          refine ⟨i + 1, by omega, by go_num, ?_, ?_⟩
          · rw [← mkT_set2 l i (j + 1) hlt _ 48 Hv.out]
            exact hbk2.set_ i _
          · exact (hb.setCell (by simp) _).setCell (by simp) _
        case measure => simp [intOf]; omega
      · have hsI : ¬ (i : Int) < (X.size : Int) := by omega
        have hv : (48 : UInt8) = if l.getD i false then 49 else 48 := by rw [getD_ge l i (by have := Hxs.out; omega)]; rfl
        have Hv := hide hv
        clear hv
        go_wp2
        go_roundw
        case rel =>
          refine ⟨i + 1, by omega, by go_num, ?_, ?_⟩
          · rw [← mkT_set l i (j + 1) hlt _ Hv.out]
            exact hbk.set_ i 48
          · exact hb.setCell (by simp) _
        case measure => simp [intOf]; omega
    · have hi' : i = j + 1 := by omega
      subst hi'
      rw [mkT_full] at hbk
      have hltI : ¬ ((j + 1 : Nat) : Int) < (j : Int) + 1 := by omega
      have hgv : (tx (padT l (j + 1)))[j]? = some 49 := by
        have := Hbit.out
        rw [tx, List.getElem?_map, padT_get _ _ _ (by omega), this]; rfl
      have Hgv := hide hgv
      clear hgv
      go_wp2_with fail
      go_loopw [8] (fun x W => ∃ (i : Nat) (bs : List UInt8), x = .int .i64 ((i : Int) - 1) ∧ i ≤ j + 1 ∧ Hid (bs.length = j + 1) ∧ Hid ((i = j + 1 ∧ bs[j]? = some 49) ∨ (i ≤ j ∧ bs[j]? = some 48)) ∧ Bk W w.heap.size bs ∧ Below w.heap.size w W) (fun x _ => (intOf x + 1).toNat)
      case atStart => exact ⟨j + 1, _, by go_num, Nat.le_refl _, by show _ = _; rw [length_tx, length_padT], .inl ⟨rfl, Hgv.out⟩, hbk, hb⟩
      case round =>
        clear hbk hb
        obtain ⟨i, bs, rfl, hi, Hl, Hi, hbk, hb⟩ := hrel
        by_cases h0 : i = 0
        · subst h0
          clear Hl Hi
          go_wp2
          go_ret2
          exact ⟨.inl rfl, hb⟩
        · obtain ⟨k, rfl⟩ : ∃ k, i = k + 1 := ⟨i - 1, by omega⟩
          rw [show ((k + 1 : Nat) : Int) - 1 = (k : Int) from by omega]
          have hkl : k < bs.length := by have := Hl.out; omega
          have hgc := hbk.cell k hkl
          have hgf := hbk.blk.frozen k
          obtain ⟨z, hz⟩ : ∃ z, z = bs[k]'hkl := ⟨_, rfl⟩
          rw [← hz] at hgc
          have Hz := hide hz
          clear hz
          by_cases hzz : z = 48
          · have hk : k < j := by
              rcases Hi.out with ⟨h1, h2⟩ | ⟨h1, h2⟩
              · have e : k = j := by omega
                subst e
                rw [List.getElem?_eq_getElem hkl, ← Hz.out, hzz] at h2
                cases h2
              · omega
            have hlast : bs[j]? = some 48 := by
              rcases Hi.out with ⟨h1, h2⟩ | ⟨h1, h2⟩
              · omega
              · exact h2
            have Hlast := hide hlast
            clear hlast Hi Hz
            subst hzz
            have hbk2 := hbk.set_ k 49
            have hl2 : (bs.set k 49).length = j + 1 := by rw [List.length_set]; exact Hl.out
            have hlast2 : (bs.set k 49)[j]? = some 48 := by rw [List.getElem?_set_ne (by omega)]; exact Hlast.out
            obtain ⟨ys, hys⟩ : ∃ ys, ys = bs.set k 49 := ⟨_, rfl⟩
            rw [← hys] at hl2 hlast2 hbk2
            have hstr := hbk2.str (j + 1) (j + 1) hl2.symm
            rw [show ((UInt8.toNat 49 : Nat) : Int) = 49 from rfl] at hstr
            clear hys
            have Hl2 := hide hl2
            have Hlast2 := hide hlast2
            clear hl2 hlast2 hbk2
            go_wp2
            go_ret2
            refine ⟨.inr ⟨_, ?_, ?_, rfl⟩, hb.setCell (by simp) _⟩
            · simp [ByteArray.size, Hl2.out]
            · intro h
              have e : (⟨ys.toArray⟩ : ByteArray)[j]'h = ys.toArray[j]'(by simpa [ByteArray.size] using h) := rfl
              rw [e]
              have := Hlast2.out
              rw [List.getElem?_eq_some_iff] at this
              obtain ⟨h1, h2⟩ := this
              simpa using h2
          · have hzI : ((z.toNat : Int) == 48) = false := by
              rw [beq_eq_false_iff_ne]
              intro e
              exact hzz (UInt8.toNat.inj (by have : (48 : UInt8).toNat = 48 := rfl; omega))
            have hnew : (k = j + 1 ∧ (bs.set k 48)[j]? = some 49) ∨ (k ≤ j ∧ (bs.set k 48)[j]? = some 48) := by
              right
              refine ⟨by omega, ?_⟩
              by_cases e : k = j
              · subst e
                simp [hkl]
              · rw [List.getElem?_set_ne (by omega)]
                rcases Hi.out with ⟨h1, h2⟩ | ⟨h1, h2⟩
                · omega
                · exact h2
            have Hnew := hide hnew
            clear hnew Hi Hz hzz
            go_wp2
            go_roundw
            case rel => exact ⟨k, bs.set k 48, rfl, by omega, by show _ = _; rw [List.length_set]; exact Hl.out, Hnew.out, hbk.set_ k 48, hb.setCell (by simp) _⟩
            case measure => simp [intOf] <;> omega
end Go.Proofs.Ytofbcgehemclbaa

