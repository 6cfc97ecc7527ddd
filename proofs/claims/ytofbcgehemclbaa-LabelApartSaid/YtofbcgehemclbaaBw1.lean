/- Contracts of the small functions of package bits: Len, At. -/
import Derived.Test.YtofbcgehemclbaaRows
import Derived.Test.YtofbcgehemclbaaBm
import Derived.Test.YtofbcgehemclbaaMem
namespace Go.Proofs.Ytofbcgehemclbaa
open Go.RowKit Bm
/-- a row of bits as the program holds it -/
def bitsV (l : List Bool) : Value := .agg #[.string (pk l), .int .i64 (l.length : Int)]
def atZ (l : List Bool) (i : Int) : Int := if 0 ≤ i ∧ i < l.length then (bv (l.getD i.toNat false) : Int) else -1
set_option maxHeartbeats 400000 in
theorem len_any (l : List Bool) (w : World) :
    Calls Try.prog 50 #[bitsV l] w fun e w' => e = .returned (.int .i64 l.length) ∧ Below w.heap.size w w' := by
  unfold bitsV
  go_enter Try.func50, Try.ntmps50
  go_wp2
  go_ret
  exact ⟨rfl, (Below.refl _ _).alloc (Nat.le_refl _) _⟩
theorem and_one (n : Nat) (h : n < 256) : bits BinOp.and .i64 (wrap64 (n : Int)) 1 = ((n % 2 : Nat) : Int) := by
  have e : wrap64 (n : Int) = (n : Int) := by unfold wrap64; omega
  rw [e]
  have ha : (BitVec.ofInt 64 (n : Int)).toNat = n := by
    rw [BitVec.ofInt_natCast, BitVec.toNat_ofNat]; exact Nat.mod_eq_of_lt (by omega)
  show IntKind.i64.wrap ((BitVec.ofInt 64 (n : Int) &&& BitVec.ofInt 64 (1 : Int)).toNat : Int) = _
  rw [BitVec.toNat_and, ha]
  have h1 : (BitVec.ofInt 64 (1 : Int)).toNat = 1 := by decide
  rw [h1, Nat.and_one_is_mod, IntKind.wrap_i64]
  omega
set_option maxHeartbeats 400000 in
theorem at_in (l : List Bool) (i : Nat) (w : World) (h : i < l.length) (hn : l.length ≤ 1048576) :
    Calls Try.prog 60 #[bitsV l, .int .i64 i] w fun e w' => e = .returned (.int .i64 (bv (l.getD i false))) ∧ Below w.heap.size w w' := by
  unfold bitsV
  have hs : i / 8 < (pk l).size := by rw [size_pk]; unfold nb; omega
  have hfin : bits BinOp.and .i64 (wrap64 (((pk l)[i / 8]'hs).toNat / 2 ^ (7 - i % 8))) 1 = (bv (l.getD i false) : Int) := by
    have e : ((((pk l)[i / 8]'hs).toNat : Int) / 2 ^ (7 - i % 8)) = ((byteN l (i / 8) / 2 ^ (7 - i % 8) : Nat) : Int) := by
      rw [pk_get]; simp
    rw [e, and_one _ (by have := byteN_lt l (i / 8); exact Nat.lt_of_le_of_lt (Nat.div_le_self _ _) this), byteN_at]
  have H := hide hfin
  clear hfin
  go_enter Try.func60, Try.ntmps60
  go_wp2
  go_ret
  exact ⟨ret_int H.out, (Below.refl _ _).alloc (Nat.le_refl _) _⟩
theorem at_one (l : List Bool) (i : Nat) (w : World) (h : i < l.length) (hn : l.length ≤ 1048576) (hb : l.getD i false = true) :
    Calls Try.prog 60 #[bitsV l, .int .i64 i] w fun e w' => e = .returned (.int .i64 1) ∧ Below w.heap.size w w' := by
  have := at_in l i w h hn
  rw [hb] at this
  exact this
theorem at_zero (l : List Bool) (i : Nat) (w : World) (h : i < l.length) (hn : l.length ≤ 1048576) (hb : l.getD i false = false) :
    Calls Try.prog 60 #[bitsV l, .int .i64 i] w fun e w' => e = .returned (.int .i64 0) ∧ Below w.heap.size w w' := by
  have := at_in l i w h hn
  rw [hb] at this
  exact this
theorem at_oneZ (l : List Bool) (x : Int) (i : Nat) (w : World) (hx : x = i) (h : i < l.length) (hn : l.length ≤ 1048576) (hb : l.getD i false = true) :
    Calls Try.prog 60 #[bitsV l, .int .i64 x] w fun e w' => e = .returned (.int .i64 1) ∧ Below w.heap.size w w' := by
  subst hx; exact at_one l i w h hn hb
theorem at_zeroZ (l : List Bool) (x : Int) (i : Nat) (w : World) (hx : x = i) (h : i < l.length) (hn : l.length ≤ 1048576) (hb : l.getD i false = false) :
    Calls Try.prog 60 #[bitsV l, .int .i64 x] w fun e w' => e = .returned (.int .i64 0) ∧ Below w.heap.size w w' := by
  subst hx; exact at_zero l i w h hn hb
set_option maxHeartbeats 400000 in
theorem at_out (l : List Bool) (i : Int) (w : World) (h : i < 0 ∨ (l.length : Int) ≤ i) :
    Calls Try.prog 60 #[bitsV l, .int .i64 i] w fun e w' => e = .returned (.int .i64 (-1)) ∧ Below w.heap.size w w' := by
  unfold bitsV
  rcases h with h | h
  · go_enter Try.func60, Try.ntmps60
    go_wp2
    go_ret
    exact ⟨rfl, (Below.refl _ _).alloc (Nat.le_refl _) _⟩
  · have h0 : 0 ≤ i := by omega
    go_enter Try.func60, Try.ntmps60
    go_wp2
    go_ret
    exact ⟨rfl, (Below.refl _ _).alloc (Nat.le_refl _) _⟩
theorem at_any (l : List Bool) (i : Int) (w : World) (hn : l.length ≤ 1048576) :
    Calls Try.prog 60 #[bitsV l, .int .i64 i] w fun e w' => e = .returned (.int .i64 (atZ l i)) ∧ Below w.heap.size w w' := by
  by_cases h : 0 ≤ i ∧ i < l.length
  · obtain ⟨n, rfl⟩ := Int.eq_ofNat_of_zero_le h.1
    have := at_in l n w (by omega) hn
    rw [show atZ l (n : Int) = (bv (l.getD n false) : Int) from by unfold atZ; rw [if_pos h, Int.toNat_natCast]]
    exact this
  · rw [show atZ l i = -1 from by unfold atZ; rw [if_neg h]]
    exact at_out l i w (by omega)
end Go.Proofs.Ytofbcgehemclbaa
