/- unicode/utf8's word: eight bytes as a number. -/
import Derived.Test.YtmnmnnocgimcpaaGreatDoorVa
import Derived.Deep.QuietTactic
import Derived.BigQuiet
namespace Go.Proofs.YtmnmnnocgimcpaaGreatDoor
open Go.RowKit
/-- a byte, as a number -/
def bt (s : ByteArray) (i : Nat) : Int := ((s.data[i]?.getD 0).toNat : Int)
theorem bt_get (s : ByteArray) (i : Nat) (h : i < s.size) : (((s[i]'h).toNat : Nat) : Int) = bt s i := by
  have h' : i < s.data.size := h
  unfold bt
  rw [Array.getElem?_eq_getElem h']
  rfl
/-- none of the high bits -/
def Zm (z : Int) : Prop := bits .and .u64 z 9259542123273814144 = 0
instance (z : Int) : Decidable (Zm z) := by unfold Zm; exact inferInstance
theorem wrap_u64_nat (r : BitVec 64) : IntKind.u64.wrap (r.toNat : Int) = (r.toNat : Int) := by
  rw [IntKind.wrap_u64]
  have := r.isLt
  omega
theorem and_u64 (x y : Int) : bits .and .u64 x y = ((BitVec.ofInt 64 x &&& BitVec.ofInt 64 y).toNat : Int) := wrap_u64_nat _
theorem or_u64 (x y : Int) : bits .or .u64 x y = ((BitVec.ofInt 64 x ||| BitVec.ofInt 64 y).toNat : Int) := wrap_u64_nat _
theorem Zm_or {x y : Int} (h : Zm (bits .or .u64 x y)) : Zm x ∧ Zm y := by
  unfold Zm at *
  rw [and_u64] at *
  rw [or_u64] at h
  rw [and_u64]
  have e : BitVec.ofInt 64 ((BitVec.ofInt 64 x ||| BitVec.ofInt 64 y).toNat : Int) = BitVec.ofInt 64 x ||| BitVec.ofInt 64 y := by
    rw [BitVec.ofInt_natCast, BitVec.ofNat_toNat, BitVec.setWidth_eq]
  rw [e] at h
  generalize BitVec.ofInt 64 x = a at *
  generalize BitVec.ofInt 64 y = b at *
  generalize BitVec.ofInt 64 9259542123273814144 = m at *
  have h0 : (a ||| b) &&& m = 0#64 := BitVec.eq_of_toNat_eq (by simpa using h)
  have hb : ∀ i, ((a.getLsbD i || b.getLsbD i) && m.getLsbD i) = false := fun i => by
    have := congrArg (fun z => z.getLsbD i) h0
    simpa using this
  constructor
  · have : a &&& m = 0#64 := BitVec.eq_of_getLsbD_eq fun i _ => by
      have := hb i
      rw [BitVec.getLsbD_and, BitVec.getLsbD_zero]
      revert this
      cases a.getLsbD i <;> cases b.getLsbD i <;> cases m.getLsbD i <;> simp
    rw [this]; rfl
  · have : b &&& m = 0#64 := BitVec.eq_of_getLsbD_eq fun i _ => by
      have := hb i
      rw [BitVec.getLsbD_and, BitVec.getLsbD_zero]
      revert this
      cases a.getLsbD i <;> cases b.getLsbD i <;> cases m.getLsbD i <;> simp
    rw [this]; rfl
def wordZ (b0 b1 b2 b3 b4 b5 b6 b7 : Int) : Int := bits .or .u64 (bits .or .u64 (bits .or .u64 (bits .or .u64 (bits .or .u64 (bits .or .u64 (bits .or .u64 (IntKind.u64.wrap b0) (IntKind.u64.wrap (IntKind.u64.wrap b1 * 256))) (IntKind.u64.wrap (IntKind.u64.wrap b2 * 65536))) (IntKind.u64.wrap (IntKind.u64.wrap b3 * 16777216))) (IntKind.u64.wrap (IntKind.u64.wrap b4 * 4294967296))) (IntKind.u64.wrap (IntKind.u64.wrap b5 * 1099511627776))) (IntKind.u64.wrap (IntKind.u64.wrap b6 * 281474976710656))) (IntKind.u64.wrap (IntKind.u64.wrap b7 * 72057594037927936))
def wz (s : ByteArray) : Int := wordZ (bt s 0) (bt s 1) (bt s 2) (bt s 3) (bt s 4) (bt s 5) (bt s 6) (bt s 7)
theorem zm0 : ∀ b : Nat, b < 256 → Zm (IntKind.u64.wrap (b : Int)) → b < 128 := by decide +kernel
theorem zm1 : ∀ b : Nat, b < 256 → Zm (IntKind.u64.wrap (IntKind.u64.wrap (b : Int) * 256)) → b < 128 := by decide +kernel
theorem zm2 : ∀ b : Nat, b < 256 → Zm (IntKind.u64.wrap (IntKind.u64.wrap (b : Int) * 65536)) → b < 128 := by decide +kernel
theorem zm3 : ∀ b : Nat, b < 256 → Zm (IntKind.u64.wrap (IntKind.u64.wrap (b : Int) * 16777216)) → b < 128 := by decide +kernel
theorem zm4 : ∀ b : Nat, b < 256 → Zm (IntKind.u64.wrap (IntKind.u64.wrap (b : Int) * 4294967296)) → b < 128 := by decide +kernel
theorem zm5 : ∀ b : Nat, b < 256 → Zm (IntKind.u64.wrap (IntKind.u64.wrap (b : Int) * 1099511627776)) → b < 128 := by decide +kernel
theorem zm6 : ∀ b : Nat, b < 256 → Zm (IntKind.u64.wrap (IntKind.u64.wrap (b : Int) * 281474976710656)) → b < 128 := by decide +kernel
theorem zm7 : ∀ b : Nat, b < 256 → Zm (IntKind.u64.wrap (IntKind.u64.wrap (b : Int) * 72057594037927936)) → b < 128 := by decide +kernel
theorem bt_nat (s : ByteArray) (i : Nat) : ∃ n : Nat, n < 256 ∧ bt s i = (n : Int) := ⟨_, UInt8.toNat_lt _, rfl⟩
/-- eight bytes of ASCII -/
theorem wz_ascii (s : ByteArray) (h : Zm (wz s)) : ∀ i, i < 8 → bt s i < 128 := by
  unfold wz wordZ at h
  obtain ⟨h, h7⟩ := Zm_or h
  obtain ⟨h, h6⟩ := Zm_or h
  obtain ⟨h, h5⟩ := Zm_or h
  obtain ⟨h, h4⟩ := Zm_or h
  obtain ⟨h, h3⟩ := Zm_or h
  obtain ⟨h, h2⟩ := Zm_or h
  obtain ⟨h0, h1⟩ := Zm_or h
  intro i hi
  match i, hi with
  | 0, _ => obtain ⟨n, hn, e⟩ := bt_nat s 0; rw [e] at h0 ⊢; have := zm0 n hn h0; omega
  | 1, _ => obtain ⟨n, hn, e⟩ := bt_nat s 1; rw [e] at h1 ⊢; have := zm1 n hn h1; omega
  | 2, _ => obtain ⟨n, hn, e⟩ := bt_nat s 2; rw [e] at h2 ⊢; have := zm2 n hn h2; omega
  | 3, _ => obtain ⟨n, hn, e⟩ := bt_nat s 3; rw [e] at h3 ⊢; have := zm3 n hn h3; omega
  | 4, _ => obtain ⟨n, hn, e⟩ := bt_nat s 4; rw [e] at h4 ⊢; have := zm4 n hn h4; omega
  | 5, _ => obtain ⟨n, hn, e⟩ := bt_nat s 5; rw [e] at h5 ⊢; have := zm5 n hn h5; omega
  | 6, _ => obtain ⟨n, hn, e⟩ := bt_nat s 6; rw [e] at h6 ⊢; have := zm6 n hn h6; omega
  | 7, _ => obtain ⟨n, hn, e⟩ := bt_nat s 7; rw [e] at h7 ⊢; have := zm7 n hn h7; omega
set_option maxRecDepth 100000 in
set_option maxHeartbeats 4000000 in
theorem word_any (s : ByteArray) (w : World) (hs : 8 ≤ s.size) : Calls Tryz.prog 174 #[.string s] w fun e w' => e = .returned (.int .u64 (wz s)) ∧ ∃ n, w' = w.drewN n := by
  have h0 : 0 < s.size := by omega
  have i0 : (0 : Int) < (s.size : Int) := by omega
  have h1 : 1 < s.size := by omega
  have i1 : (1 : Int) < (s.size : Int) := by omega
  have h2 : 2 < s.size := by omega
  have i2 : (2 : Int) < (s.size : Int) := by omega
  have h3 : 3 < s.size := by omega
  have i3 : (3 : Int) < (s.size : Int) := by omega
  have h4 : 4 < s.size := by omega
  have i4 : (4 : Int) < (s.size : Int) := by omega
  have h5 : 5 < s.size := by omega
  have i5 : (5 : Int) < (s.size : Int) := by omega
  have h6 : 6 < s.size := by omega
  have i6 : (6 : Int) < (s.size : Int) := by omega
  have h7 : 7 < s.size := by omega
  have i7 : (7 : Int) < (s.size : Int) := by omega
  have hw : wz s = wordZ (s[0]'h0).toNat (s[1]'h1).toNat (s[2]'h2).toNat (s[3]'h3).toNat (s[4]'h4).toNat (s[5]'h5).toNat (s[6]'h6).toNat (s[7]'h7).toNat := by
    rw [bt_get, bt_get, bt_get, bt_get, bt_get, bt_get, bt_get, bt_get]; rfl
  have Hw := hide hw
  clear hw
  go_enter Tryz.func174, Tryz.ntmps174
  go_wp2_with fail
  go_quiet (fail)
  go_wp2
  go_ret
  exact ⟨by rw [Hw.out]; rfl, _, rfl⟩
end Go.Proofs.YtmnmnnocgimcpaaGreatDoor
