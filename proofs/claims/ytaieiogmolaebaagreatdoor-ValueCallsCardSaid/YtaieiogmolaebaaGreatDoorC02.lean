/- unicode/utf8's word: eight bytes as a number. chars at plain text. unicode/utf8's ValidString at any text: what it answers hangs on the text alone. -/
import Derived.Test.YtaieiogmolaebaaGreatDoorC01
import Derived.Deep.QuietTactic
import Derived.BigQuiet
import Derived.Test.YtaieiogmolaebaaGreatDoorC00
import Derived.Lib.LaidU8
namespace Go.Proofs.YtaieiogmolaebaaGreatDoor
open Go.RowKit
def bt (s : ByteArray) (i : Nat) : Int := ((s.data[i]?.getD 0).toNat : Int)
theorem bt_get (s : ByteArray) (i : Nat) (h : i < s.size) : (((s[i]'h).toNat : Nat) : Int) = bt s i := by
 have h' : i < s.data.size := h
 unfold bt
 rw [Array.getElem?_eq_getElem h']
 rfl
def Zm (z : Int) : Prop := bits .and .u64 z 9259542123273814144 = 0
instance (z : Int) : Decidable (Zm z) := by unfold Zm; exact inferInstance
theorem wrap_u64_nat (r : BitVec 64) : IntKind.u64.wrap (r.toNat : Int) = (r.toNat : Int) := by
 rw [IntKind.wrap_u64]
 have := r.isLt
 omega
theorem and_u64 (x y : Int) : bits .and .u64 x y = ((BitVec.ofInt 64 x &&& BitVec.ofInt 64 y).toNat : Int) := wrap_u64_nat _
theorem or_u64 (x y : Int) : bits .or .u64 x y = ((BitVec.ofInt 64 x ||| BitVec.ofInt 64 y).toNat : Int) := wrap_u64_nat _
theorem Zm_or {x y : Int} (h : Zm (bits .or .u64 x y)) : Zm x ∧ Zm y := by
 unfold Zm at *
 rw [and_u64] at *
 rw [or_u64] at h
 rw [and_u64]
 have e : BitVec.ofInt 64 ((BitVec.ofInt 64 x ||| BitVec.ofInt 64 y).toNat : Int) = BitVec.ofInt 64 x ||| BitVec.ofInt 64 y := by
  rw [BitVec.ofInt_natCast, BitVec.ofNat_toNat, BitVec.setWidth_eq]
 rw [e] at h
 generalize BitVec.ofInt 64 x = a at *
 generalize BitVec.ofInt 64 y = b at *
 generalize BitVec.ofInt 64 9259542123273814144 = m at *
 have h0 : (a ||| b) &&& m = 0#64 := BitVec.eq_of_toNat_eq (by simpa using h)
 have hb : ∀ i, ((a.getLsbD i || b.getLsbD i) && m.getLsbD i) = false := fun i => by
  have := congrArg (fun z => z.getLsbD i) h0
  simpa using this
 constructor
 ·have : a &&& m = 0#64 := BitVec.eq_of_getLsbD_eq fun i _ => by
   have := hb i
   rw [BitVec.getLsbD_and, BitVec.getLsbD_zero]
   revert this
   cases a.getLsbD i <;> cases b.getLsbD i <;> cases m.getLsbD i <;> simp
  rw [this]; rfl
 ·have : b &&& m = 0#64 := BitVec.eq_of_getLsbD_eq fun i _ => by
   have := hb i
   rw [BitVec.getLsbD_and, BitVec.getLsbD_zero]
   revert this
   cases a.getLsbD i <;> cases b.getLsbD i <;> cases m.getLsbD i <;> simp
  rw [this]; rfl
def wordZ (b0 b1 b2 b3 b4 b5 b6 b7 : Int) : Int := bits .or .u64 (bits .or .u64 (bits .or .u64 (bits .or .u64 (bits .or .u64 (bits .or .u64 (bits .or .u64 (IntKind.u64.wrap b0) (IntKind.u64.wrap (IntKind.u64.wrap b1 * 256))) (IntKind.u64.wrap (IntKind.u64.wrap b2 * 65536))) (IntKind.u64.wrap (IntKind.u64.wrap b3 * 16777216))) (IntKind.u64.wrap (IntKind.u64.wrap b4 * 4294967296))) (IntKind.u64.wrap (IntKind.u64.wrap b5 * 1099511627776))) (IntKind.u64.wrap (IntKind.u64.wrap b6 * 281474976710656))) (IntKind.u64.wrap (IntKind.u64.wrap b7 * 72057594037927936))
def wz (s : ByteArray) : Int := wordZ (bt s 0) (bt s 1) (bt s 2) (bt s 3) (bt s 4) (bt s 5) (bt s 6) (bt s 7)
theorem zm0 : ∀ b : Nat, b < 256 → Zm (IntKind.u64.wrap (b : Int)) → b < 128 := by decide +kernel
theorem zm1 : ∀ b : Nat, b < 256 → Zm (IntKind.u64.wrap (IntKind.u64.wrap (b : Int) * 256)) → b < 128 := by decide +kernel
theorem zm2 : ∀ b : Nat, b < 256 → Zm (IntKind.u64.wrap (IntKind.u64.wrap (b : Int) * 65536)) → b < 128 := by decide +kernel
theorem zm3 : ∀ b : Nat, b < 256 → Zm (IntKind.u64.wrap (IntKind.u64.wrap (b : Int) * 16777216)) → b < 128 := by decide +kernel
theorem zm4 : ∀ b : Nat, b < 256 → Zm (IntKind.u64.wrap (IntKind.u64.wrap (b : Int) * 4294967296)) → b < 128 := by decide +kernel
theorem zm5 : ∀ b : Nat, b < 256 → Zm (IntKind.u64.wrap (IntKind.u64.wrap (b : Int) * 1099511627776)) → b < 128 := by decide +kernel
theorem zm6 : ∀ b : Nat, b < 256 → Zm (IntKind.u64.wrap (IntKind.u64.wrap (b : Int) * 281474976710656)) → b < 128 := by decide +kernel
theorem zm7 : ∀ b : Nat, b < 256 → Zm (IntKind.u64.wrap (IntKind.u64.wrap (b : Int) * 72057594037927936)) → b < 128 := by decide +kernel
theorem bt_nat (s : ByteArray) (i : Nat) : ∃ n : Nat, n < 256 ∧ bt s i = (n : Int) := ⟨_, UInt8.toNat_lt _, rfl⟩
theorem wz_ascii (s : ByteArray) (h : Zm (wz s)) : ∀ i, i < 8 → bt s i < 128 := by
 unfold wz wordZ at h
 obtain ⟨h, h7⟩ := Zm_or h
 obtain ⟨h, h6⟩ := Zm_or h
 obtain ⟨h, h5⟩ := Zm_or h
 obtain ⟨h, h4⟩ := Zm_or h
 obtain ⟨h, h3⟩ := Zm_or h
 obtain ⟨h, h2⟩ := Zm_or h
 obtain ⟨h0, h1⟩ := Zm_or h
 intro i hi
 match i, hi with
 | 0, _ => obtain ⟨n, hn, e⟩ := bt_nat s 0; rw [e] at h0 ⊢; have := zm0 n hn h0; omega
 | 1, _ => obtain ⟨n, hn, e⟩ := bt_nat s 1; rw [e] at h1 ⊢; have := zm1 n hn h1; omega
 | 2, _ => obtain ⟨n, hn, e⟩ := bt_nat s 2; rw [e] at h2 ⊢; have := zm2 n hn h2; omega
 | 3, _ => obtain ⟨n, hn, e⟩ := bt_nat s 3; rw [e] at h3 ⊢; have := zm3 n hn h3; omega
 | 4, _ => obtain ⟨n, hn, e⟩ := bt_nat s 4; rw [e] at h4 ⊢; have := zm4 n hn h4; omega
 | 5, _ => obtain ⟨n, hn, e⟩ := bt_nat s 5; rw [e] at h5 ⊢; have := zm5 n hn h5; omega
 | 6, _ => obtain ⟨n, hn, e⟩ := bt_nat s 6; rw [e] at h6 ⊢; have := zm6 n hn h6; omega
 | 7, _ => obtain ⟨n, hn, e⟩ := bt_nat s 7; rw [e] at h7 ⊢; have := zm7 n hn h7; omega
set_option maxRecDepth 100000 in
set_option maxHeartbeats 4000000 in
theorem word_any (s : ByteArray) (w : World) (hs : 8 ≤ s.size) : Calls Tryz.prog 155 #[.string s] w fun e w' => e = .returned (.int .u64 (wz s)) ∧ ∃ n, w' = w.drewN n := by
 have h0 : 0 < s.size := by omega
 have i0 : (0 : Int) < (s.size : Int) := by omega
 have h1 : 1 < s.size := by omega
 have i1 : (1 : Int) < (s.size : Int) := by omega
 have h2 : 2 < s.size := by omega
 have i2 : (2 : Int) < (s.size : Int) := by omega
 have h3 : 3 < s.size := by omega
 have i3 : (3 : Int) < (s.size : Int) := by omega
 have h4 : 4 < s.size := by omega
 have i4 : (4 : Int) < (s.size : Int) := by omega
 have h5 : 5 < s.size := by omega
 have i5 : (5 : Int) < (s.size : Int) := by omega
 have h6 : 6 < s.size := by omega
 have i6 : (6 : Int) < (s.size : Int) := by omega
 have h7 : 7 < s.size := by omega
 have i7 : (7 : Int) < (s.size : Int) := by omega
 have hw : wz s = wordZ (s[0]'h0).toNat (s[1]'h1).toNat (s[2]'h2).toNat (s[3]'h3).toNat (s[4]'h4).toNat (s[5]'h5).toNat (s[6]'h6).toNat (s[7]'h7).toNat := by
  rw [bt_get, bt_get, bt_get, bt_get, bt_get, bt_get, bt_get, bt_get]; rfl
 have Hw := hide hw
 clear hw
 go_enter Tryz.func155, Tryz.ntmps155
 go_wp2_with fail
 go_quiet (fail)
 go_wp2
 go_ret
 exact ⟨by rw [Hw.out]; rfl, _, rfl⟩
end Go.Proofs.YtaieiogmolaebaaGreatDoor
namespace Go.Proofs.YtaieiogmolaebaaGreatDoor
set_option maxRecDepth 100000
set_option maxHeartbeats 4000000
open Go.RowKit
theorem char_ascii (r : Int) (w : World) (h1 : 32 ≤ r) (h2 : r < 127) : Calls Tryz.prog 106 #[.int .i32 r] w fun e w' => e = .returned (.bool true) ∧ w = w' := by
 have e1 : (r == 9) = false := by simp; omega
 have e2 : (r == 10) = false := by simp; omega
 have e3 : (r == 13) = false := by simp; omega
 have n1 : ¬ r < 32 := by omega
 have n2 : ¬ 55296 ≤ r := by omega
 have n3 : ¬ 1114111 < r := by omega
 have e4 : (r == 65534) = false := by simp; omega
 have e5 : (r == 65535) = false := by simp; omega
 have e6 : (r != 65534) = true := by simp; omega
 have e7 : (r != 65535) = true := by simp; omega
 clear h1 h2
 go_enter Tryz.func106, Tryz.ntmps106
 go_wp2
 go_ret
 exact ⟨rfl, rfl⟩
theorem Ascii.tail {t : ByteArray} (h : Ascii t) : Ascii (t.extract 1 t.size) := by
 intro i hi
 have hi2 : i < t.size - 1 := by simpa [ByteArray.size_extract] using hi
 have := h (1 + i) (by omega)
 rw [ByteArray.getElem_extract]
 exact this
def sizeS : Value → Nat
 | .string s => s.size
 | _ => 0
theorem valid_ascii (s : ByteArray) (w : World) (hs : Ascii s) (hl : s.size ≤ 8) : Calls Tryz.prog 107 #[.string s] w fun e w' => e = .returned (.bool true) ∧ w = w' := by
 have Hs := hide hs
 clear hs
 go_enter Tryz.func107, Tryz.ntmps107
 go_wp2_with fail
 go_loop [0] (fun v => ∃ t : ByteArray, v = .string t ∧ Hid (Ascii t) ∧ t.size ≤ 8) (fun v => sizeS v)
 case atStart => exact ⟨s, rfl, Hs, hl⟩
 case round =>
  obtain ⟨t, rfl, ht, htl⟩ := hrel
  by_cases h0 : 0 < t.size
  ·have hI : (0 : Int) < t.size := by omega
   have hb := ht.out 0 h0
   have hb2 : ((t[0]'h0).toNat : Int) < 128 := by omega
   have hts : (t.extract 1 t.size).size = t.size - 1 := by simp [ByteArray.size_extract]
   have h8 : ¬ (8 : Int) < ((t.extract 1 t.size).size : Int) := by omega
   have ht2 := hide (Ascii.tail ht.out)
   clear hb
   go_wp2
   go_round
   case rel => exact ⟨_, rfl, ht2, by omega⟩
   case measure => simp [sizeS]; omega
  ·have hI : ¬ (0 : Int) < t.size := by omega
   go_wp2
   go_ret
   exact ⟨rfl, rfl⟩
theorem texts_ascii (s : ByteArray) (w : World) (hs : Ascii s) (hl : s.size ≤ 8) : Calls Tryz.prog 53 #[.string s] w fun e w' => e = .returned (.bool true) ∧ Below w.heap.size w w' := by
 have Hs := hide hs
 clear hs
 go_enter Tryz.func53, Tryz.ntmps53
 go_wp2_with fail
 go_loopw [4] (fun _ W => ∃ k : Nat, k ≤ s.size ∧ W.heap[w.heap.size]? = some (.stringIter s k) ∧ Below w.heap.size w W) (fun _ W => s.size - W.iterPos w.heap.size)
 case atStart => exact ⟨0, Nat.zero_le _, heap_new _ _ _ rfl, (Below.refl _ _).alloc (Nat.le_refl _) _⟩
 case round =>
  obtain ⟨k, hk, hit, hB⟩ := hrel
  by_cases hlt : k < s.size
  ·have hb := Hs.out k hlt
   have hnx : ∀ ty, (Instr.next (.pointer (some ⟨w.heap.size, 0, none⟩)) true ty).run Tryz.prog wr = _ := fun ty => Lib.run_next_ascii_at wr w.heap.size s k ty hit hlt (by omega)
   have hit2 := Lib.iterAt_heap wr w.heap.size s k (k + 1) hit
   have hB2 := Lib.below_iterAt hB (k := w.heap.size) (Nat.le_refl _) s (k + 1)
   go_wp2_with fail
   refine (char_ascii _ _ (by omega) (by omega)).mono ?_
   rintro e W1 ⟨rfl, rfl⟩
   clear hnx
   go_wp2
   go_roundw
   case rel => exact ⟨k + 1, by omega, hit2, hB2⟩
   case measure =>
    have e1 : wr.iterPos w.heap.size = k := by simp [World.iterPos, hit]
    have e2 : (wr.iterAt w.heap.size s (k + 1)).iterPos w.heap.size = k + 1 := by simp [World.iterPos, hit2]
    rw [e1, e2]; omega
  ·have hnx : ∀ ty, (Instr.next (.pointer (some ⟨w.heap.size, 0, none⟩)) true ty).run Tryz.prog wr = _ := fun ty => Lib.run_next_end_at wr w.heap.size s k ty hit hlt
   clear hk
   go_wp2_with fail
   refine (valid_ascii s _ Hs.out hl).mono ?_
   rintro e W1 ⟨rfl, rfl⟩
   go_wp2
   go_ret
   exact ⟨rfl, hB⟩
end Go.Proofs.YtaieiogmolaebaaGreatDoor
namespace Go.Proofs.YtaieiogmolaebaaGreatDoor
open Go.RowKit
def vnum (t : ByteArray) : Nat :=
 if bt t 0 < 128 then 1
 else if Lib.firstT (bt t 0).toNat % 8 = 2 then (if t.size < 2 ∨ bt t 1 < Lib.accLo (Lib.firstT (bt t 0).toNat / 16) ∨ (Lib.accHi (Lib.firstT (bt t 0).toNat / 16) : Int) < bt t 1 then 0 else 2)
 else if Lib.firstT (bt t 0).toNat % 8 = 3 then (if t.size < 3 ∨ bt t 1 < Lib.accLo (Lib.firstT (bt t 0).toNat / 16) ∨ (Lib.accHi (Lib.firstT (bt t 0).toNat / 16) : Int) < bt t 1 ∨ bt t 2 < 128 ∨ 191 < bt t 2 then 0 else 3)
 else if Lib.firstT (bt t 0).toNat % 8 = 4 then (if t.size < 4 ∨ bt t 1 < Lib.accLo (Lib.firstT (bt t 0).toNat / 16) ∨ (Lib.accHi (Lib.firstT (bt t 0).toNat / 16) : Int) < bt t 1 ∨ bt t 2 < 128 ∨ 191 < bt t 2 ∨ bt t 3 < 128 ∨ 191 < bt t 3 then 0 else 4)
 else 0
def vSf : Nat → ByteArray → Bool
 | 0, _ => true
 | n + 1, t => if t.size = 0 then true else if vnum t = 0 then false else vSf n (t.extract (vnum t) t.size)
def vS (t : ByteArray) : Bool := vSf t.size t
theorem ext_size (t : ByteArray) (k : Nat) : (t.extract k t.size).size = t.size - k := by simp [ByteArray.size_extract]
theorem vSf_fuel : ∀ (n m : Nat) (t : ByteArray), t.size ≤ n → t.size ≤ m → vSf n t = vSf m t
 | 0, 0, _, _, _ => rfl
 | 0, m + 1, t, h, _ => by
  have : t.size = 0 := by omega
  simp [vSf, this]
 | n + 1, 0, t, _, h => by
  have : t.size = 0 := by omega
  simp [vSf, this]
 | n + 1, m + 1, t, h1, h2 => by
  unfold vSf
  by_cases h0 : t.size = 0
  ·rw [if_pos h0, if_pos h0]
  ·rw [if_neg h0, if_neg h0]
   by_cases hv : vnum t = 0
   ·rw [if_pos hv, if_pos hv]
   ·rw [if_neg hv, if_neg hv]
    have := ext_size t (vnum t)
    exact vSf_fuel n m _ (by omega) (by omega)
theorem vS_nil {t : ByteArray} (h : t.size = 0) : vS t = true := by unfold vS; rw [h]; rfl
theorem vS_no {t : ByteArray} (h : t.size ≠ 0) (hv : vnum t = 0) : vS t = false := by
 unfold vS
 obtain ⟨n, hn⟩ : ∃ n, t.size = n + 1 := ⟨t.size - 1, by omega⟩
 rw [hn]; unfold vSf
 rw [if_neg h, if_pos hv]
theorem vS_yes {t : ByteArray} {k : Nat} (h : t.size ≠ 0) (hv : vnum t = k) (hk : k ≠ 0) : vS (t.extract k t.size) = vS t := by
 subst hv
 have e := ext_size t (vnum t)
 have : vS t = vSf (t.size) t := rfl
 rw [this]
 obtain ⟨n, hn⟩ : ∃ n, t.size = n + 1 := ⟨t.size - 1, by omega⟩
 conv => rhs; rw [hn]
 unfold vSf
 rw [if_neg h, if_neg hk]
 exact vSf_fuel _ _ _ (by omega) (by omega)
theorem bt_ext (t : ByteArray) (k i : Nat) : bt (t.extract k t.size) i = bt t (k + i) := by
 by_cases h : k + i < t.size
 ·have h1 : i < (t.extract k t.size).size := by rw [ext_size]; omega
  rw [← bt_get _ _ h1, ← bt_get _ _ h, ByteArray.getElem_extract]
 ·have h1 : ¬ i < (t.extract k t.size).size := by rw [ext_size]; omega
  have h2 : ¬ i < (t.extract k t.size).data.size := h1
  have h3 : ¬ k + i < t.data.size := h
  unfold bt
  rw [Array.getElem?_eq_none (by omega), Array.getElem?_eq_none (by omega)]
theorem ext_ext (t : ByteArray) (a b : Nat) : (t.extract a t.size).extract b (t.extract a t.size).size = t.extract (a + b) t.size := by
 apply ByteArray.ext
 apply Array.ext
 ·have h1 := ext_size (t.extract a t.size) b
  have h2 := ext_size t a
  have h3 := ext_size t (a + b)
  show ByteArray.size _ = ByteArray.size _
  omega
 ·intro i h1 h2
  have h1' : i < ((t.extract a t.size).extract b (t.extract a t.size).size).size := h1
  have h2' : i < (t.extract (a + b) t.size).size := h2
  have e1 : ((t.extract a t.size).extract b (t.extract a t.size).size)[i]'h1' = t[a + (b + i)]'(by rw [ext_size, ext_size] at h1'; omega) := by
   rw [ByteArray.getElem_extract, ByteArray.getElem_extract]
  have e2 : (t.extract (a + b) t.size)[i]'h2' = t[(a + b) + i]'(by rw [ext_size] at h2'; omega) := by
   rw [ByteArray.getElem_extract]
  have e3 : t[a + (b + i)]'(by rw [ext_size, ext_size] at h1'; omega) = t[(a + b) + i]'(by rw [ext_size] at h2'; omega) := by
   congr 1; omega
  exact e1.trans (e3.trans e2.symm)
theorem vnum_ascii {t : ByteArray} (h : bt t 0 < 128) : vnum t = 1 := by unfold vnum; rw [if_pos h]
theorem vS_skip (t : ByteArray) : ∀ k, k ≤ t.size → (∀ i, i < k → bt t i < 128) → vS (t.extract k t.size) = vS t
 | 0, _, _ => by
  have : t.extract 0 t.size = t := by simp
  rw [this]
 | k + 1, hk, h => by
  have ih := vS_skip t k (by omega) (fun i hi => h i (by omega))
  rw [← ih]
  have h0 : bt (t.extract k t.size) 0 < 128 := by rw [bt_ext]; exact h k (by omega)
  have hs := ext_size t k
  have := vS_yes (t := t.extract k t.size) (by omega) (vnum_ascii h0) (by decide)
  rw [ext_ext] at this
  exact this
theorem bt_asc8 (t : ByteArray) (k : Nat) (h : Zm (wz (t.extract k t.size))) : ∀ i, k ≤ i → i < k + 8 → bt t i < 128 := by
 intro i h1 h2
 have := wz_ascii _ h (i - k) (by omega)
 rw [bt_ext] at this
 rwa [show k + (i - k) = i by omega] at this
theorem vS_skip16 (t : ByteArray) (h : 16 ≤ t.size) (h1 : Zm (wz t)) (h2 : Zm (wz (t.extract 8 t.size))) : vS (t.extract 16 t.size) = vS t :=
 vS_skip t 16 h fun i hi => by
  by_cases c : i < 8
  ·exact wz_ascii t h1 i c
  ·exact bt_asc8 t 8 h2 i (by omega) (by omega)
theorem vS_skip32 (t : ByteArray) (h : 32 ≤ t.size) (h1 : Zm (wz t)) (h2 : Zm (wz (t.extract 8 t.size))) (h3 : Zm (wz (t.extract 16 t.size))) (h4 : Zm (wz (t.extract 24 t.size))) : vS (t.extract 32 t.size) = vS t :=
 vS_skip t 32 h fun i hi => by
  by_cases c : i < 8
  ·exact wz_ascii t h1 i c
  ·by_cases c2 : i < 16
   ·exact bt_asc8 t 8 h2 i (by omega) (by omega)
   ·by_cases c3 : i < 24
    ·exact bt_asc8 t 16 h3 i (by omega) (by omega)
    ·exact bt_asc8 t 24 h4 i (by omega) (by omega)
theorem vnum2_no {t : ByteArray} {x : Nat} (h0 : ¬ bt t 0 < 128) (hx : Lib.firstT (bt t 0).toNat = x) (h2 : x % 8 = 2) (h : t.size < 2 ∨ bt t 1 < Lib.accLo (x / 16) ∨ (Lib.accHi (x / 16) : Int) < bt t 1) : vnum t = 0 := by
 unfold vnum; rw [if_neg h0, hx, if_pos h2, if_pos h]
theorem vnum2_yes {t : ByteArray} {x : Nat} (h0 : ¬ bt t 0 < 128) (hx : Lib.firstT (bt t 0).toNat = x) (h2 : x % 8 = 2) (h : ¬ (t.size < 2 ∨ bt t 1 < Lib.accLo (x / 16) ∨ (Lib.accHi (x / 16) : Int) < bt t 1)) : vnum t = 2 := by
 unfold vnum; rw [if_neg h0, hx, if_pos h2, if_neg h]
theorem vnum3_no {t : ByteArray} {x : Nat} (h0 : ¬ bt t 0 < 128) (hx : Lib.firstT (bt t 0).toNat = x) (h2 : x % 8 = 3) (h : t.size < 3 ∨ bt t 1 < Lib.accLo (x / 16) ∨ (Lib.accHi (x / 16) : Int) < bt t 1 ∨ bt t 2 < 128 ∨ 191 < bt t 2) : vnum t = 0 := by
 unfold vnum; rw [if_neg h0, hx, if_neg (by omega), if_pos h2, if_pos h]
theorem vnum3_yes {t : ByteArray} {x : Nat} (h0 : ¬ bt t 0 < 128) (hx : Lib.firstT (bt t 0).toNat = x) (h2 : x % 8 = 3) (h : ¬ (t.size < 3 ∨ bt t 1 < Lib.accLo (x / 16) ∨ (Lib.accHi (x / 16) : Int) < bt t 1 ∨ bt t 2 < 128 ∨ 191 < bt t 2)) : vnum t = 3 := by
 unfold vnum; rw [if_neg h0, hx, if_neg (by omega), if_pos h2, if_neg h]
theorem vnum4_no {t : ByteArray} {x : Nat} (h0 : ¬ bt t 0 < 128) (hx : Lib.firstT (bt t 0).toNat = x) (h2 : x % 8 = 4) (h : t.size < 4 ∨ bt t 1 < Lib.accLo (x / 16) ∨ (Lib.accHi (x / 16) : Int) < bt t 1 ∨ bt t 2 < 128 ∨ 191 < bt t 2 ∨ bt t 3 < 128 ∨ 191 < bt t 3) : vnum t = 0 := by
 unfold vnum; rw [if_neg h0, hx, if_neg (by omega), if_neg (by omega), if_pos h2, if_pos h]
theorem vnum4_yes {t : ByteArray} {x : Nat} (h0 : ¬ bt t 0 < 128) (hx : Lib.firstT (bt t 0).toNat = x) (h2 : x % 8 = 4) (h : ¬ (t.size < 4 ∨ bt t 1 < Lib.accLo (x / 16) ∨ (Lib.accHi (x / 16) : Int) < bt t 1 ∨ bt t 2 < 128 ∨ 191 < bt t 2 ∨ bt t 3 < 128 ∨ 191 < bt t 3)) : vnum t = 4 := by
 unfold vnum; rw [if_neg h0, hx, if_neg (by omega), if_neg (by omega), if_pos h2, if_neg h]
theorem vnum_bad {t : ByteArray} {x : Nat} (h0 : ¬ bt t 0 < 128) (hx : Lib.firstT (bt t 0).toNat = x) (h2 : x % 8 ≠ 2) (h3 : x % 8 ≠ 3) (h4 : x % 8 ≠ 4) : vnum t = 0 := by
 unfold vnum; rw [if_neg h0, hx, if_neg h2, if_neg h3, if_neg h4]
def Tabs8 (w : World) : Prop := Lib.Utf8Tabs 1 2 w
theorem Tabs8.keep {w w' : World} (h : Tabs8 w) (hb : Below w.heap.size w w') : Tabs8 w' :=
 ⟨fun c hc => cell_keep hb (h.1 c hc), fun i hi => ⟨cell_keep hb (h.2 i hi).1, cell_keep hb (h.2 i hi).2⟩⟩
theorem below_drewN {B : Nat} {a w : World} (h : Below B a w) (n : Nat) : Below B a (w.drewN n) := h.trans ⟨rfl, rfl, rfl, Nat.le_refl _, fun _ _ => rfl⟩
end Go.Proofs.YtaieiogmolaebaaGreatDoor
