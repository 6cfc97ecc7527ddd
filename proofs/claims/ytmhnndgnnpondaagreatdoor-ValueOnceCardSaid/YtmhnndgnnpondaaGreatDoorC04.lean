/- chars.Char, chars.Texts at any text: what they answer hangs on the text alone. value.right at rows of plain items. value.plus, times, made: what a sign makes of two numbers. -/
import Derived.Test.YtmhnndgnnpondaaGreatDoorTx
import Derived.Test.YtmhnndgnnpondaaGreatDoorC01
import Derived.Deep.Cut
import Derived.Test.YtmhnndgnnpondaaGreatDoorC00
namespace Go.Proofs.YtmhnndgnnpondaaGreatDoor
set_option maxRecDepth 100000
set_option maxHeartbeats 4000000
open Go.RowKit
def chr (r : Int) : Bool := (r == 9 || r == 10 || r == 13) || (!(decide (r < 32) || (decide (55296 ≤ r) && decide (r ≤ 57343)) || decide (1114111 < r)) && (r != 65534 && r != 65535))
theorem char_any (r : Int) (w : World) : Calls Tryz.prog 107 #[.int .i32 r] w fun e w' => e = .returned (.bool (chr r)) ∧ w = w' := by
 by_cases h9 : r = 9
 ·have f : (r == 9) = true := by simpa using h9
  have H : Hid (chr r = true) := by show chr r = true; simp [chr, h9]
  clear h9
  go_enter Tryz.func107, Tryz.ntmps107
  go_wp2
  go_ret
  exact ⟨by rw [H.out]; rfl, rfl⟩
 ·by_cases h10 : r = 10
  ·have f9 : (r == 9) = false := by simpa using h9
   have f : (r == 10) = true := by simpa using h10
   have H : Hid (chr r = true) := by show chr r = true; simp [chr, h10]
   clear h9 h10
   go_enter Tryz.func107, Tryz.ntmps107
   go_wp2
   go_ret
   exact ⟨by rw [H.out]; rfl, rfl⟩
  ·by_cases h13 : r = 13
   ·have f9 : (r == 9) = false := by simpa using h9
    have f10 : (r == 10) = false := by simpa using h10
    have f : (r == 13) = true := by simpa using h13
    have H : Hid (chr r = true) := by show chr r = true; simp [chr, h13]
    clear h9 h10 h13
    go_enter Tryz.func107, Tryz.ntmps107
    go_wp2
    go_ret
    exact ⟨by rw [H.out]; rfl, rfl⟩
   ·by_cases h32 : r < 32
    ·have H : Hid (chr r = false) := by show chr r = false; simp [chr, h9, h10, h13, h32]
     have f9 : (r == 9) = false := by simpa using h9
     have f10 : (r == 10) = false := by simpa using h10
     have f13 : (r == 13) = false := by simpa using h13
     clear h9 h10 h13
     go_enter Tryz.func107, Tryz.ntmps107
     go_wp2
     go_ret
     exact ⟨by rw [H.out]; rfl, rfl⟩
    ·have d32 : decide (r < 32) = false := by simpa using h32
     by_cases hs1 : 55296 ≤ r
     ·by_cases hs2 : r ≤ 57343
      ·have H : Hid (chr r = false) := by show chr r = false; simp [chr, h9, h10, h13, hs1, hs2]
       have f9 : (r == 9) = false := by simpa using h9
       have f10 : (r == 10) = false := by simpa using h10
       have f13 : (r == 13) = false := by simpa using h13
       clear h9 h10 h13 h32
       go_enter Tryz.func107, Tryz.ntmps107
       go_wp2
       go_ret
       exact ⟨by rw [H.out]; rfl, rfl⟩
      ·have ds2 : decide (r ≤ 57343) = false := by simpa using hs2
       by_cases hm : 1114111 < r
       ·have H : Hid (chr r = false) := by show chr r = false; simp [chr, h9, h10, h13, hm]
        have f9 : (r == 9) = false := by simpa using h9
        have f10 : (r == 10) = false := by simpa using h10
        have f13 : (r == 13) = false := by simpa using h13
        clear h9 h10 h13 h32 hs2
        go_enter Tryz.func107, Tryz.ntmps107
        go_wp2
        go_ret
        exact ⟨by rw [H.out]; rfl, rfl⟩
       ·have dm : decide (1114111 < r) = false := by simpa using hm
        by_cases he : r = 65534
        ·have H : Hid (chr r = false) := by show chr r = false; simp [chr, he]
         have fe : (r != 65534) = false := by simpa using he
         have f9 : (r == 9) = false := by simpa using h9
         have f10 : (r == 10) = false := by simpa using h10
         have f13 : (r == 13) = false := by simpa using h13
         clear h9 h10 h13 h32 hs2 hm he
         go_enter Tryz.func107, Tryz.ntmps107
         go_wp2
         go_ret
         exact ⟨by rw [H.out]; rfl, rfl⟩
        ·by_cases hf : r = 65535
         ·have H : Hid (chr r = false) := by show chr r = false; simp [chr, hf]
          have fe : (r != 65534) = true := by simpa using he
          have ff : (r != 65535) = false := by simpa using hf
          have f9 : (r == 9) = false := by simpa using h9
          have f10 : (r == 10) = false := by simpa using h10
          have f13 : (r == 13) = false := by simpa using h13
          clear h9 h10 h13 h32 hs2 hm he hf
          go_enter Tryz.func107, Tryz.ntmps107
          go_wp2
          go_ret
          exact ⟨by rw [H.out]; rfl, rfl⟩
         ·have H : Hid (chr r = true) := by show chr r = true; simp [chr, h9, h10, h13, h32, hs2, hm, he, hf]
          have fe : (r != 65534) = true := by simpa using he
          have ff : (r != 65535) = true := by simpa using hf
          have f9 : (r == 9) = false := by simpa using h9
          have f10 : (r == 10) = false := by simpa using h10
          have f13 : (r == 13) = false := by simpa using h13
          clear h9 h10 h13 h32 hs2 hm he hf
          go_enter Tryz.func107, Tryz.ntmps107
          go_wp2
          go_ret
          exact ⟨by rw [H.out]; rfl, rfl⟩
     ·have ds1 : decide (55296 ≤ r) = false := by simpa using hs1
      have hm : ¬ 1114111 < r := by omega
      have dm : decide (1114111 < r) = false := by simpa using hm
      have he : (r != 65534) = true := by simp; omega
      have hf : (r != 65535) = true := by simp; omega
      have H : Hid (chr r = true) := by
       show chr r = true
       have e1 : r ≠ 65534 := by omega
       have e2 : r ≠ 65535 := by omega
       simp [chr, h9, h10, h13, h32, hs1, hm, e1, e2]
      have f9 : (r == 9) = false := by simpa using h9
      have f10 : (r == 10) = false := by simpa using h10
      have f13 : (r == 13) = false := by simpa using h13
      clear h9 h10 h13 h32 hs1 hm
      go_enter Tryz.func107, Tryz.ntmps107
      go_wp2
      go_ret
      exact ⟨by rw [H.out]; rfl, rfl⟩
def scan (s : ByteArray) : Nat → Nat → Bool
 | 0, _ => true
 | n + 1, pos => if pos < s.size then chr (Utf8.decode s pos).1 && scan s n (pos + (Utf8.decode s pos).2) else true
theorem scan_fuel (s : ByteArray) : ∀ (n m pos : Nat), s.size ≤ pos + n → s.size ≤ pos + m → scan s n pos = scan s m pos
 | 0, 0, _, _, _ => rfl
 | 0, m + 1, pos, h, _ => by unfold scan; rw [if_neg (by omega)]
 | n + 1, 0, pos, _, h => by unfold scan; rw [if_neg (by omega)]
 | n + 1, m + 1, pos, h1, h2 => by
  unfold scan
  by_cases h : pos < s.size
  ·have := Lib.decode_width_pos s pos h
   rw [if_pos h, if_pos h, scan_fuel s n m _ (by omega) (by omega)]
  ·rw [if_neg h, if_neg h]
def tS (s : ByteArray) : Bool := scan s s.size 0 && vS s
theorem scan_step (s : ByteArray) (pos : Nat) (h : pos < s.size) : scan s s.size pos = (chr (Utf8.decode s pos).1 && scan s s.size (pos + (Utf8.decode s pos).2)) := by
 have := Lib.decode_width_pos s pos h
 rw [scan_fuel s s.size (s.size + 1) pos (by omega) (by omega)]
 conv => lhs; unfold scan
 rw [if_pos h]
theorem scan_end (s : ByteArray) (pos : Nat) (h : ¬ pos < s.size) : scan s s.size pos = true := by
 obtain ⟨n, hn⟩ : ∃ n, n = s.size := ⟨_, rfl⟩
 rw [← hn]
 match n with
 | 0 => rfl
 | n + 1 => unfold scan; rw [if_neg h]
theorem texts_any (s : ByteArray) (w : World) (ht8 : Tabs8 w) (hs : s.size < 9223372036854775807) : Calls Tryz.prog 59 #[.string s] w fun e w' => e = .returned (.bool (tS s)) ∧ Below w.heap.size w w' := by
 have T8 := hide ht8
 clear ht8
 go_enter Tryz.func59, Tryz.ntmps59
 go_wp2_with fail
 go_loopw [4] (fun _ W => ∃ k : Nat, Hid (scan s s.size k = scan s s.size 0) ∧ W.heap[w.heap.size]? = some (.stringIter s k) ∧ Below w.heap.size w W) (fun _ W => s.size - W.iterPos w.heap.size)
 case atStart => exact ⟨0, hide rfl, heap_new _ _ _ rfl, (Below.refl _ _).alloc (Nat.le_refl _) _⟩
 case round =>
  obtain ⟨k, hk, hit, hB⟩ := hrel
  by_cases hlt : k < s.size
  ·have hnx : ∀ ty, (Instr.next (.pointer (some ⟨w.heap.size, 0, none⟩)) true ty).run Tryz.prog wr = _ := fun ty => Lib.run_next_any_at wr w.heap.size s k ty hit hlt
   have hst := scan_step s k hlt
   have hwd := Lib.decode_width_pos s k hlt
   rw [hk.out] at hst
   obtain ⟨r, hr⟩ : ∃ r : Nat, r = (Utf8.decode s k).1 := ⟨_, rfl⟩
   obtain ⟨d, hd⟩ : ∃ d : Nat, d = (Utf8.decode s k).2 := ⟨_, rfl⟩
   rw [← hr, ← hd] at hnx hst
   rw [← hd] at hwd
   have hit2 := Lib.iterAt_heap wr w.heap.size s k (k + d) hit
   have hB2 := Lib.below_iterAt hB (k := w.heap.size) (Nat.le_refl _) s (k + d)
   have Hst := hide hst
   clear hr hd hst hk
   go_wp2_with fail
   refine (char_any _ _).mono ?_
   rintro e W1 ⟨rfl, rfl⟩
   clear hnx
   by_cases hc : chr (r : Int) = true
   ·have hc2 : Hid (scan s s.size (k + d) = scan s s.size 0) := by
     show _ = _
     have := Hst.out; rw [hc, Bool.true_and] at this; exact this.symm
    go_wp2
    go_roundw
    case rel => exact ⟨k + d, hc2, hit2, hB2⟩
    case measure =>
     have e1 : wr.iterPos w.heap.size = k := by simp [World.iterPos, hit]
     have e2 : (wr.iterAt w.heap.size s (k + d)).iterPos w.heap.size = k + d := by simp [World.iterPos, hit2]
     rw [e1, e2]; omega
   ·have hc1 : chr (r : Int) = false := by simpa using hc
    have hc2 : Hid (tS s = false) := by
     show tS s = false
     have := Hst.out; rw [hc1, Bool.false_and] at this; unfold tS; rw [this]; rfl
    clear hc Hst
    go_wp2
    go_ret
    exact ⟨by rw [hc2.out]; rfl, hB2⟩
  ·have hnx : ∀ ty, (Instr.next (.pointer (some ⟨w.heap.size, 0, none⟩)) true ty).run Tryz.prog wr = _ := fun ty => Lib.run_next_end_at wr w.heap.size s k ty hit hlt
   have hsc : Hid (tS s = vS s) := by
    show tS s = vS s
    unfold tS; rw [← hk.out, scan_end s k hlt, Bool.true_and]
   clear hk
   go_wp2_with fail
   refine (valid_any s _ (T8.out.keep hB) hs).mono ?_
   rintro e W1 ⟨rfl, hb1⟩
   have hB1 := chain0 hB hb1
   go_wp2
   go_ret
   exact ⟨by rw [hsc.out]; rfl, hB1⟩
end Go.Proofs.YtmhnndgnnpondaaGreatDoor
namespace Go.Proofs.YtmhnndgnnpondaaGreatDoor
open Go.RowKit
theorem itemInfo : (Tryz.prog.info? 31).map (fun i => (i.zero, i.size, i.bytes)) = some (some (.agg #[.int .u8 0, .int .i64 0, .string ⟨#[]⟩, .int .i64 0]), 4, 40) := by kernel_rfl
theorem rowInfo : (Tryz.prog.info? 22).map (fun i => (i.zero, i.size, i.bytes)) = some (some (.slice none 0 0), 1, 24) := by kernel_rfl
theorem ix_item (b off n c i : Nat) (hlt : i < n) (W : World) : (Instr.indexAt 22 (.slice (some ⟨b, off, none⟩) n c) (.int .i64 (i : Int))).run Tryz.prog W = .ok (.pointer (some ⟨b, off + i * 4, none⟩)) W := by
 obtain ⟨j0, hj, _, hj1, _⟩ := info_parts itemInfo
 exact run_ix Tryz.underlying22 hj hj1 b off n c i (i : Int) rfl hlt W
theorem ix_row (b off n c i : Nat) (hlt : i < n) (W : World) : (Instr.indexAt 33 (.slice (some ⟨b, off, none⟩) n c) (.int .i64 (i : Int))).run Tryz.prog W = .ok (.pointer (some ⟨b, off + i, none⟩)) W := by
 obtain ⟨j0, hj, _, hj1, _⟩ := info_parts rowInfo
 have := run_ix Tryz.underlying33 hj hj1 b off n c i (i : Int) rfl hlt W
 rwa [Nat.mul_one] at this
inductive Good : It → Prop
 | node (s : ByteArray) (d : Nat) (h : Ascii s) (hs : s.size ≤ 8) : Good ⟨1, 0, s, d⟩
 | int (n : Int) : Good ⟨2, n, ⟨#[]⟩, 0⟩
 | str (s : ByteArray) (h : Ascii s) (hs : s.size ≤ 8) : Good ⟨3, 0, s, 0⟩
structure Lst where
 a : Option Addr
 l : List It
 c : Nat
def Lst.v (x : Lst) : Value := .slice x.a x.l.length x.c
def OkL (w : World) (x : Lst) : Prop := RdI w x.a x.l ∧ (∀ y ∈ x.l, Good y) ∧ x.l.length ≤ 8
def OkLs (w : World) (ls : List Lst) : Prop := ∀ x ∈ ls, OkL w x
theorem OkLs.keep {w w' : World} {ls : List Lst} (h : OkLs w ls) (hb : Below w.heap.size w w') : OkLs w' ls := fun x hx => ⟨(h x hx).1.keep hb, (h x hx).2⟩
theorem zero_le8 : ByteArray.size ⟨#[]⟩ ≤ 8 := by decide
theorem ascii_nil : Ascii ⟨#[]⟩ := fun i h => absurd h (by simp [ByteArray.size])
set_option maxRecDepth 100000 in
set_option maxHeartbeats 4000000 in
theorem right_ok (p : Option Addr) (n c : Nat) (ls : List Lst) (w : World) (hn : n = ls.length) (hle : n ≤ 8) (hr : Rd w p (ls.map Lst.v)) (hok : OkLs w ls) :
  Calls Tryz.prog 26 #[.slice p n c] w fun e w' => e = .returned (.bool true) ∧ Below w.heap.size w w' := by
 have Hn := hide hn
 have Hr := hide hr
 have Hok := hide hok
 clear hn hr hok
 go_enter Tryz.func26, Tryz.ntmps26
 go_wp2_with fail
 go_loopw [10] (fun i W => ∃ k : Nat, k ≤ n ∧ i = .int .i64 k ∧ Below w.heap.size w W) (fun i _ => n - (intOf i).toNat)
 case atStart => exact ⟨0, Nat.zero_le _, rfl, Below.refl _ _⟩
 case round =>
  obtain ⟨k, hk, rfl, hB⟩ := hrel
  by_cases hlt : k < n
  ·have hI : (k : Int) < (n : Int) := by omega
   obtain ⟨x, hx⟩ : ∃ x, ls[k]? = some x := ⟨_, List.getElem?_eq_getElem (by have := Hn.out; omega)⟩
   obtain ⟨b, off, rfl, hc⟩ := Hr.out.cellAt k x.v (by simp [hx])
   have hcell : wr.cell? ⟨b, off + k, none⟩ = some (.slice x.a x.l.length x.c) := cell_keep hB hc
   have hix := ix_row b off n c k hlt
   have hokx := hide (Hok.out x (List.mem_of_getElem? hx))
   have hxl : x.l.length ≤ 8 := hokx.out.2.2
   clear hx hc
   obtain ⟨xa, xl, xc⟩ := x
   dsimp only at hcell hxl
   obtain ⟨m, hm⟩ : ∃ m, m = xl.length := ⟨_, rfl⟩
   rw [← hm] at hcell hxl
   have Hm := hide hm
   clear hm
   go_wp2_with fail
   go_loopw [16] (fun i W => ∃ j : Nat, j ≤ m ∧ i = .int .i64 j ∧ Below w.heap.size w W) (fun i _ => m - (intOf i).toNat)
   case atStart => exact ⟨0, Nat.zero_le _, rfl, hB⟩
   case round =>
    obtain ⟨j, hj, rfl, hB2⟩ := hrel
    by_cases hlj : j < m
    ·have hI2 : (j : Int) < (m : Int) := by omega
     obtain ⟨y, hy⟩ : ∃ y, xl[j]? = some y := ⟨_, List.getElem?_eq_getElem (by have := Hm.out; omega)⟩
     have hg := hokx.out.2.1 y (List.mem_of_getElem? hy)
     obtain ⟨b2, off2, rfl, c0, c1, c2, c3⟩ := (hokx.out.1.keep hB2).at j y hy
     have hix2 := ix_item b2 off2 m xc j hlj
     clear hy
     cases hg with
     | node s d hs hss =>
      have hd0 : ¬ (d : Int) < 0 := by omega
      go_wp2_with fail
      go_region
      go_wp2_with fail
      refine (texts_ascii s _ hs hss).mono ?_
      rintro e w3 ⟨rfl, hb3⟩
      have hB3 : Below w.heap.size w w3 := chain hB2 hB2.size (Below.trans (((Below.refl wr.heap.size wr).alloc (Nat.le_refl _) _).alloc (by simp) _).drew (hb3.mono (by simp; omega)))
      clear hb3
      go_wp2
      go_roundw
      case rel => exact ⟨j + 1, by omega, by simp, hB3⟩
      case measure => simp [intOf]; omega
     | int z =>
      go_wp2_with fail
      refine (texts_ascii _ _ ascii_nil zero_le8).mono ?_
      rintro e w3 ⟨rfl, hb3⟩
      have hB3 := chain0 hB2 (chain2 (Below.refl _ _) hb3)
      clear hb3
      go_wp2
      go_roundw
      case rel => exact ⟨j + 1, by omega, by simp, hB3⟩
      case measure => simp [intOf]; omega
     | str s hs hss =>
      go_wp2_with fail
      refine (texts_ascii s _ hs hss).mono ?_
      rintro e w3 ⟨rfl, hb3⟩
      have hB3 := chain0 hB2 (chain2 (Below.refl _ _) hb3)
      clear hb3
      go_wp2
      go_roundw
      case rel => exact ⟨j + 1, by omega, by simp, hB3⟩
      case measure => simp [intOf]; omega
    ·have hI2 : ¬ (j : Int) < (m : Int) := by omega
     go_wp2
     go_roundw
     case rel => exact ⟨k + 1, by omega, by simp, hB2⟩
     case measure => simp [intOf]; omega
  ·have hI : ¬ (k : Int) < (n : Int) := by omega
   go_wp2
   go_ret
   exact ⟨rfl, hB⟩
end Go.Proofs.YtmhnndgnnpondaaGreatDoor
namespace Go.Proofs.YtmhnndgnnpondaaGreatDoor
set_option maxRecDepth 100000
set_option maxHeartbeats 4000000
open Go.RowKit
def R64 (x : Int) : Prop := -9223372036854775808 ≤ x ∧ x ≤ 9223372036854775807
def fit (x : Int) : Bool := decide (-9223372036854775808 ≤ x ∧ x ≤ 9223372036854775807)
theorem fit_iff (x : Int) : fit x = true ↔ R64 x := by unfold fit R64; simp
theorem wrap_R (x : Int) : R64 (wrap64 x) := by unfold R64 wrap64; omega
theorem wrap_fit {x : Int} (h : fit x = true) : wrap64 x = x := by
 have := (fit_iff x).1 h
 unfold R64 at this; unfold wrap64; omega
theorem wrap_i64_toInt (r : BitVec 64) : IntKind.i64.wrap (r.toNat : Int) = r.toInt := by
 rw [IntKind.wrap_i64, BitVec.toInt_eq_toNat_cond]
 have := r.isLt
 split <;> omega
theorem xor_toInt (x y : Int) : bits .xor .i64 x y = (BitVec.ofInt 64 x ^^^ BitVec.ofInt 64 y).toInt := wrap_i64_toInt _
theorem and_toInt (x y : Int) : bits .and .i64 x y = (BitVec.ofInt 64 x &&& BitVec.ofInt 64 y).toInt := wrap_i64_toInt _
theorem msb_ofInt (x : Int) (h : R64 x) : (BitVec.ofInt 64 x).msb = decide (x < 0) := by
 rw [BitVec.msb_eq_toInt, BitVec.toInt_ofInt]
 unfold R64 at h
 congr 1
 rw [Int.bmod_def]
 apply propext
 constructor <;> (split <;> omega)
theorem sign_law (a b c d : Int) (ha : R64 a) (hb : R64 b) (hc : R64 c) (hd : R64 d) : decide (0 ≤ bits .and .i64 (bits .xor .i64 a c) (bits .xor .i64 b d)) = !((decide (a < 0) != decide (c < 0)) && (decide (b < 0) != decide (d < 0))) := by
 rw [and_toInt, xor_toInt a c, xor_toInt b d, BitVec.ofInt_toInt, BitVec.ofInt_toInt]
 have h := BitVec.msb_eq_toInt (x := (BitVec.ofInt 64 a ^^^ BitVec.ofInt 64 c) &&& (BitVec.ofInt 64 b ^^^ BitVec.ofInt 64 d))
 rw [BitVec.msb_and, BitVec.msb_xor, BitVec.msb_xor, msb_ofInt a ha, msb_ofInt b hb, msb_ofInt c hc, msb_ofInt d hd] at h
 generalize ((BitVec.ofInt 64 a ^^^ BitVec.ofInt 64 c) &&& (BitVec.ofInt 64 b ^^^ BitVec.ofInt 64 d)).toInt = z at h
 rw [show (decide (a < 0) != decide (c < 0)) = (decide (a < 0) ^^ decide (c < 0)) from rfl, show (decide (b < 0) != decide (d < 0)) = (decide (b < 0) ^^ decide (d < 0)) from rfl, h]
 by_cases hz : z < 0
 ·have : ¬ 0 ≤ z := by omega
  simp [hz]
 ·have : 0 ≤ z := by omega
  simp [this]
theorem plus_law (a b : Int) (ha : R64 a) (hb : R64 b) : decide (0 ≤ bits .and .i64 (bits .xor .i64 a (wrap64 (a + b))) (bits .xor .i64 b (wrap64 (a + b)))) = fit (a + b) := by
 rw [sign_law a b _ _ ha hb (wrap_R _) (wrap_R _)]
 unfold fit
 have e : wrap64 (a + b) = (a + b + 9223372036854775808) % 18446744073709551616 - 9223372036854775808 := by unfold wrap64; rfl
 unfold R64 at ha hb
 generalize wrap64 (a + b) = c at e
 rw [Bool.eq_iff_iff]
 simp
 omega
theorem minus_law (a b : Int) (ha : R64 a) (hb : R64 b) : decide (0 ≤ bits .and .i64 (bits .xor .i64 a b) (bits .xor .i64 a (wrap64 (a - b)))) = fit (a - b) := by
 rw [sign_law a a _ _ ha ha hb (wrap_R _)]
 unfold fit
 have e : wrap64 (a - b) = (a - b + 9223372036854775808) % 18446744073709551616 - 9223372036854775808 := by unfold wrap64; rfl
 unfold R64 at ha hb
 generalize wrap64 (a - b) = c at e
 rw [Bool.eq_iff_iff]
 simp
 omega
theorem plus_any (a b : Int) (ha : R64 a) (hb : R64 b) (w : World) : Calls Tryz.prog 67 #[.int .i64 a, .int .i64 b] w fun e w' => e = .returned (.tuple #[.int .i64 (wrap64 (a + b)), .bool (fit (a + b))]) ∧ w = w' := by
 have H := hide (plus_law a b ha hb)
 clear ha hb
 go_enter Tryz.func67, Tryz.ntmps67
 go_wp2
 go_ret2
 exact ⟨by rw [← H.out]; rfl, rfl⟩
theorem size_pos (a : Int) (ha : R64 a) (h : ¬ a < 0) : IntKind.u64.wrap a = (a.natAbs : Int) := by
 unfold R64 at ha; rw [IntKind.wrap_u64]; omega
theorem size_neg (a : Int) (ha : R64 a) (h : a < 0) : IntKind.u64.wrap (-IntKind.u64.wrap a) = (a.natAbs : Int) := by
 unfold R64 at ha; rw [IntKind.wrap_u64, IntKind.wrap_u64]; omega
theorem tsize_any (a : Int) (ha : R64 a) (w : World) : Calls Tryz.prog 127 #[.int .i64 a] w fun e w' => e = .returned (.int .u64 (a.natAbs : Int)) ∧ w = w' := by
 by_cases h : a < 0
 ·have H := hide (size_neg a ha h)
  clear ha
  go_enter Tryz.func127, Tryz.ntmps127
  go_wp2
  go_ret
  exact ⟨ret_int H.out, rfl⟩
 ·have H := hide (size_pos a ha h)
  clear ha
  go_enter Tryz.func127, Tryz.ntmps127
  go_wp2
  go_ret
  exact ⟨ret_int H.out, rfl⟩
theorem mul_signs (a b : Int) : a * b = if (decide (a < 0) != decide (b < 0)) = true then -((a.natAbs * b.natAbs : Nat) : Int) else ((a.natAbs * b.natAbs : Nat) : Int) := by
 rcases Int.lt_or_le a 0 with ha | ha <;> rcases Int.lt_or_le b 0 with hb | hb
 ·obtain ⟨x, hx⟩ : ∃ x : Nat, a = -(x : Int) := ⟨a.natAbs, by omega⟩
  obtain ⟨y, hy⟩ : ∃ y : Nat, b = -(y : Int) := ⟨b.natAbs, by omega⟩
  rw [if_neg (by simp [ha, hb])]
  subst hx hy
  simp only [Int.natAbs_neg, Int.natAbs_natCast, Int.natCast_mul]
  rw [Int.neg_mul_neg]
 ·obtain ⟨x, hx⟩ : ∃ x : Nat, a = -(x : Int) := ⟨a.natAbs, by omega⟩
  obtain ⟨y, hy⟩ : ∃ y : Nat, b = (y : Int) := ⟨b.natAbs, by omega⟩
  rw [if_pos (by have : ¬ b < 0 := by omega
                 simp [ha, this])]
  subst hx hy
  simp only [Int.natAbs_neg, Int.natAbs_natCast, Int.natCast_mul]
  rw [Int.neg_mul]
 ·obtain ⟨x, hx⟩ : ∃ x : Nat, a = (x : Int) := ⟨a.natAbs, by omega⟩
  obtain ⟨y, hy⟩ : ∃ y : Nat, b = -(y : Int) := ⟨b.natAbs, by omega⟩
  rw [if_pos (by have : ¬ a < 0 := by omega
                 simp [hb, this])]
  subst hx hy
  simp only [Int.natAbs_neg, Int.natAbs_natCast, Int.natCast_mul]
  rw [Int.mul_neg]
 ·obtain ⟨x, hx⟩ : ∃ x : Nat, a = (x : Int) := ⟨a.natAbs, by omega⟩
  obtain ⟨y, hy⟩ : ∃ y : Nat, b = (y : Int) := ⟨b.natAbs, by omega⟩
  have h1 : ¬ a < 0 := by omega
  have h2 : ¬ b < 0 := by omega
  rw [if_neg (by simp [h1, h2])]
  subst hx hy
  simp only [Int.natAbs_natCast, Int.natCast_mul]
theorem times_law (a b hi lo : Int) (h1 : hi = ((a.natAbs * b.natAbs / 18446744073709551616 : Nat) : Int)) (h2 : lo = ((a.natAbs * b.natAbs % 18446744073709551616 : Nat) : Int)) :
  ((decide (a < 0) != decide (b < 0)) = true → hi = 0 → fit (a * b) = decide (lo ≤ 9223372036854775808)) ∧
  ((decide (a < 0) != decide (b < 0)) = false → hi = 0 → fit (a * b) = decide (lo < 9223372036854775808)) ∧ (hi ≠ 0 → fit (a * b) = false) := by
 have hm := mul_signs a b
 generalize a.natAbs * b.natAbs = p at *
 generalize a * b = m at *
 unfold fit
 refine ⟨fun h h0 => ?_, fun h h0 => ?_, fun h => ?_⟩
 ·rw [h, if_pos rfl] at hm
  rw [Bool.eq_iff_iff]; simp; omega
 ·rw [h] at hm
  simp only [Bool.false_eq_true, if_false] at hm
  rw [Bool.eq_iff_iff]; simp; omega
 ·split at hm
  ·simp; omega
  ·simp; omega
theorem times_any (a b : Int) (ha : R64 a) (hb : R64 b) (w : World) : Calls Tryz.prog 80 #[.int .i64 a, .int .i64 b] w fun e w' => e = .returned (.tuple #[.int .i64 (wrap64 (a * b)), .bool (fit (a * b))]) ∧ w = w' := by
 have hx : a.natAbs < 18446744073709551616 := by unfold R64 at ha; omega
 have hy : b.natAbs < 18446744073709551616 := by unfold R64 at hb; omega
 obtain ⟨hi, h1⟩ : ∃ hi : Int, hi = ((a.natAbs * b.natAbs / 18446744073709551616 : Nat) : Int) := ⟨_, rfl⟩
 obtain ⟨lo, h2⟩ : ∃ lo : Int, lo = ((a.natAbs * b.natAbs % 18446744073709551616 : Nat) : Int) := ⟨_, rfl⟩
 have HL := hide (times_law a b hi lo h1 h2)
 have H1 := hide h1
 have H2 := hide h2
 have Ha := hide ha
 have Hb := hide hb
 have Hx := hide hx
 have Hy := hide hy
 clear h1 h2 ha hb hx hy
 go_enter Tryz.func80, Tryz.ntmps80
 go_wp2_with fail
 refine (tsize_any a Ha.out _).mono ?_
 rintro e w1 ⟨rfl, rfl⟩
 go_wp2_with fail
 refine (tsize_any b Hb.out _).mono ?_
 rintro e w1 ⟨rfl, rfl⟩
 go_wp2_with fail
 refine (Tryz.bits_Mul64 a.natAbs b.natAbs Hx.out Hy.out _).mono ?_
 rintro e w1 ⟨rfl, rfl⟩
 rw [← H1.out, ← H2.out]
 clear H1 H2 Ha Hb Hx Hy
 by_cases h1 : a < 0
 ·by_cases h2 : b < 0
  ·by_cases h0 : hi = 0
   ·have hq : (hi == 0) = true := by simpa using h0
    have H := hide (HL.out.2.1 (by simp [h1, h2]) h0)
    clear HL h0
    go_wp2
    go_ret2
    exact ⟨by rw [H.out]; rfl, rfl⟩
   ·have hq : (hi == 0) = false := by simpa using h0
    have H := hide (HL.out.2.2 h0)
    clear HL h0
    go_wp2
    go_ret2
    exact ⟨by rw [H.out]; rfl, rfl⟩
  ·have d2 : decide (b < 0) = false := by simpa using h2
   by_cases h0 : hi = 0
   ·have hq : (hi == 0) = true := by simpa using h0
    have H := hide (HL.out.1 (by simp [h1, h2]) h0)
    clear HL h0
    go_wp2
    go_ret2
    exact ⟨by rw [H.out]; rfl, rfl⟩
   ·have hq : (hi == 0) = false := by simpa using h0
    have H := hide (HL.out.2.2 h0)
    clear HL h0
    go_wp2
    go_ret2
    exact ⟨by rw [H.out]; rfl, rfl⟩
 ·have d1 : decide (a < 0) = false := by simpa using h1
  by_cases h2 : b < 0
  ·by_cases h0 : hi = 0
   ·have hq : (hi == 0) = true := by simpa using h0
    have H := hide (HL.out.1 (by simp [h1, h2]) h0)
    clear HL h0
    go_wp2
    go_ret2
    exact ⟨by rw [H.out]; rfl, rfl⟩
   ·have hq : (hi == 0) = false := by simpa using h0
    have H := hide (HL.out.2.2 h0)
    clear HL h0
    go_wp2
    go_ret2
    exact ⟨by rw [H.out]; rfl, rfl⟩
  ·have d2 : decide (b < 0) = false := by simpa using h2
   by_cases h0 : hi = 0
   ·have hq : (hi == 0) = true := by simpa using h0
    have H := hide (HL.out.2.1 (by simp [h1, h2]) h0)
    clear HL h0
    go_wp2
    go_ret2
    exact ⟨by rw [H.out]; rfl, rfl⟩
   ·have hq : (hi == 0) = false := by simpa using h0
    have H := hide (HL.out.2.2 h0)
    clear HL h0
    go_wp2
    go_ret2
    exact ⟨by rw [H.out]; rfl, rfl⟩
end Go.Proofs.YtmhnndgnnpondaaGreatDoor
