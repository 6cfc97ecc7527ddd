/- CRC-32: change.sum, log.sum. -/
import Derived.Test.YtobdajealbhjmaaGreatDoorRows
import Derived.Test.YtobdajealbhjmaaGreatDoorMem
namespace Go.Proofs.YtobdajealbhjmaaGreatDoor
open Go.RowKit
def crc1 (c : Nat) : Nat := (c / 2) ^^^ (3988292384 * (c % 2))
def crcK (c : Nat) : Nat → Nat
  | 0 => c
  | k + 1 => crc1 (crcK c k)
def crcB (c b : Nat) : Nat := crcK (c ^^^ b) 8
def crcS (x : Nat → Nat) (c : Nat) : Nat → Nat
  | 0 => c
  | n + 1 => crcB (crcS x c n) (x n)
theorem xor32 (a b : Nat) (ha : a < 4294967296) (hb : b < 4294967296) : bits BinOp.xor .u32 (a : Int) (b : Int) = ((a ^^^ b : Nat) : Int) := by
  have ha' : (BitVec.ofInt 32 (a : Int)).toNat = a := by rw [BitVec.ofInt_natCast, BitVec.toNat_ofNat]; exact Nat.mod_eq_of_lt (by omega)
  have hb' : (BitVec.ofInt 32 (b : Int)).toNat = b := by rw [BitVec.ofInt_natCast, BitVec.toNat_ofNat]; exact Nat.mod_eq_of_lt (by omega)
  show IntKind.u32.wrap ((BitVec.ofInt 32 (a : Int) ^^^ BitVec.ofInt 32 (b : Int)).toNat : Int) = _
  rw [BitVec.toNat_xor, ha', hb']
  have h : a ^^^ b < 2 ^ 32 := Nat.xor_lt_two_pow (by omega) (by omega)
  show IntKind.u32.wrap ((a ^^^ b : Nat) : Int) = ((a ^^^ b : Nat) : Int)
  generalize a ^^^ b = z at *
  simp [IntKind.wrap, IntKind.signed, IntKind.bits]
  omega
theorem and32 (a : Nat) (ha : a < 4294967296) : bits BinOp.and .u32 (a : Int) 1 = ((a % 2 : Nat) : Int) := by
  have ha' : (BitVec.ofInt 32 (a : Int)).toNat = a := by rw [BitVec.ofInt_natCast, BitVec.toNat_ofNat]; exact Nat.mod_eq_of_lt (by omega)
  show IntKind.u32.wrap ((BitVec.ofInt 32 (a : Int) &&& BitVec.ofInt 32 (1 : Int)).toNat : Int) = _
  rw [BitVec.toNat_and, ha']
  have h1 : (BitVec.ofInt 32 (1 : Int)).toNat = 1 := by decide
  rw [h1, Nat.and_one_is_mod]
  simp [IntKind.wrap, IntKind.signed, IntKind.bits]
  omega
theorem xor_lt (a b : Nat) (ha : a < 4294967296) (hb : b < 4294967296) : a ^^^ b < 4294967296 := by
  have h : a ^^^ b < 2 ^ 32 := Nat.xor_lt_two_pow (by omega) (by omega)
  exact h
theorem crc1_lt (c : Nat) (h : c < 4294967296) : crc1 c < 4294967296 := by
  unfold crc1
  exact xor_lt _ _ (by omega) (by omega)
theorem crc1_ok (c : Nat) (h : c < 4294967296) : bits BinOp.xor .u32 ((c : Int) / 2) (3988292384 * bits BinOp.and .u32 (c : Int) 1 % 4294967296) = ((crc1 c : Nat) : Int) := by
  rw [and32 c h]
  have e1 : (c : Int) / 2 = ((c / 2 : Nat) : Int) := by omega
  have e2 : (3988292384 * ((c % 2 : Nat) : Int) % 4294967296) = ((3988292384 * (c % 2) : Nat) : Int) := by omega
  rw [e1, e2, xor32 _ _ (by omega) (by omega)]
  rfl
theorem crcK_lt (c : Nat) (h : c < 4294967296) : ∀ k, crcK c k < 4294967296
  | 0 => h
  | k + 1 => crc1_lt _ (crcK_lt c h k)
theorem crcB_lt (c b : Nat) (h : c < 4294967296) (hb : b < 256) : crcB c b < 4294967296 := crcK_lt _ (xor_lt _ _ h (by omega)) _
theorem crcS_lt (x : Nat → Nat) (hx : ∀ i, x i < 256) (c : Nat) (h : c < 4294967296) : ∀ n, crcS x c n < 4294967296
  | 0 => h
  | n + 1 => crcB_lt _ _ (crcS_lt x hx c h n) (hx n)
set_option maxHeartbeats 400000 in
theorem csum_any (g off len cap : Nat) (x : Nat → Nat) (w : World) (hcap : len ≤ cap) (hbig : len ≤ 281474976710656) (hx : ∀ i, x i < 256) (hc : ∀ i, i < len → w.cell? ⟨g, off + i, none⟩ = some (.int .u8 (x i : Int))) :
    Calls Tryz.prog 157 #[.slice (some ⟨g, off, none⟩) len cap] w fun e w' => e = .returned (.int .u32 ((4294967295 ^^^ crcS x 4294967295 len : Nat) : Int)) ∧ w' = w := by
  go_enter Tryz.func157, Tryz.ntmps157
  go_wp2
  go_loopw [3, 8] (fun c i wr => ∃ k : Nat, k ≤ len ∧ c = .int .u32 (crcS x 4294967295 k : Nat) ∧ i = .int .i64 k ∧ w = wr) (fun _ i _ => len - (intOf i).toNat)
  case atStart => exact ⟨0, Nat.zero_le _, rfl, rfl, rfl⟩
  case round =>
    obtain ⟨k, hk, rfl, rfl, rfl⟩ := hrel
    by_cases hlt : k < len
    · have hck : w.cell? ⟨g, off + k, none⟩ = some (.int .u8 (x k : Int)) := hc k hlt
      have h1 : decide (k < len) = true := by simp [hlt]
      have hl := crcS_lt x hx 4294967295 (by decide) k
      have hb := hx k
      have hm : ((x k : Int) % 4294967296) = ((x k : Nat) : Int) := by omega
      have hxo : bits BinOp.xor .u32 (crcS x 4294967295 k : Nat) (x k : Nat) = ((crcS x 4294967295 k ^^^ x k : Nat) : Int) := xor32 _ _ hl (by omega)
      have Hs : Hid (crcS x 4294967295 (k + 1) = crcK (crcS x 4294967295 k ^^^ x k) 8) := rfl
      have hz := xor_lt (crcS x 4294967295 k) (x k) hl (by omega)
      go_wp2
      generalize crcS x 4294967295 k ^^^ x k = z at *
      go_loopw [3, 16] (fun c i wr => ∃ j : Nat, j ≤ 8 ∧ c = .int .u32 (crcK z j : Nat) ∧ i = .int .i64 j ∧ w = wr) (fun _ i _ => 8 - (intOf i).toNat)
      case atStart => exact ⟨0, Nat.zero_le _, rfl, rfl, rfl⟩
      case round =>
        obtain ⟨j, hj, rfl, rfl, rfl⟩ := hrel
        have hzl := crcK_lt z hz j
        by_cases hlt : j < 8
        · have h1 : decide (j < 8) = true := by simp [hlt]
          have He : Hid _ := hide (crc1_ok _ hzl)
          go_wp2
          exact ⟨⟨j + 1, by omega, by rw [He.out]; rfl, rfl, trivial⟩, by simp only [intOf]; omega⟩
        · obtain rfl : j = 8 := by omega
          go_wp2
          exact ⟨⟨k + 1, by omega, by rw [Hs.out], rfl, trivial⟩, by simp only [intOf]; omega⟩
    · obtain rfl : k = len := by omega
      have h1 : decide (k < k) = false := by simp
      have hl := crcS_lt x hx 4294967295 (by decide) k
      have hxo : bits BinOp.xor .u32 IntKind.u32.max (crcS x 4294967295 k : Nat) = ((4294967295 ^^^ crcS x 4294967295 k : Nat) : Int) := xor32 4294967295 _ (by decide) hl
      go_wp2
      go_ret
      exact ⟨rfl, rfl⟩
def PartOK (w : World) (v : Value) (l : Nat) (x : Nat → Nat) : Prop :=
  ∃ a c, v = .slice a l c ∧ ∀ j, j < l → ∃ g off, a = some ⟨g, off, none⟩ ∧ w.cell? ⟨g, off + j, none⟩ = some (.int .u8 (x j : Int))
def crcP (l : Nat → Nat) (x : Nat → Nat → Nat) (c : Nat) : Nat → Nat
  | 0 => c
  | n + 1 => crcS (x n) (crcP l x c n) (l n)
theorem crcP_lt (l : Nat → Nat) (x : Nat → Nat → Nat) (hx : ∀ n i, x n i < 256) (c : Nat) (h : c < 4294967296) : ∀ n, crcP l x c n < 4294967296
  | 0 => h
  | n + 1 => crcS_lt _ (hx n) _ (crcP_lt l x hx c h n) _
set_option maxHeartbeats 400000 in
theorem lsum_any (g off n cap : Nat) (l : Nat → Nat) (x : Nat → Nat → Nat) (v : Nat → Value) (w : World) (hcap : n ≤ cap) (hbig : n ≤ 281474976710656) (hx : ∀ n i, x n i < 256)
    (hc : ∀ i, i < n → w.cell? ⟨g, off + i, none⟩ = some (v i)) (hp : ∀ i, i < n → PartOK w (v i) (l i) (x i)) (hl : ∀ i, i < n → l i ≤ 281474976710656) :
    Calls Tryz.prog 128 #[.slice (some ⟨g, off, none⟩) n cap] w fun e w' => e = .returned (.int .u32 ((4294967295 ^^^ crcP l x 4294967295 n : Nat) : Int)) ∧ w' = w := by
  go_enter Tryz.func128, Tryz.ntmps128
  go_wp2
  go_loopw [3, 10] (fun c i wr => ∃ k : Nat, k ≤ n ∧ c = .int .u32 (crcP l x 4294967295 k : Nat) ∧ i = .int .i64 k ∧ w = wr) (fun _ i _ => n - (intOf i).toNat)
  case atStart => exact ⟨0, Nat.zero_le _, rfl, rfl, rfl⟩
  case round =>
    obtain ⟨k, hk, rfl, rfl, rfl⟩ := hrel
    by_cases hlt : k < n
    · obtain ⟨a, cp, hv, hby⟩ := hp k hlt
      have hck : w.cell? ⟨g, off + k, none⟩ = some (.slice a (l k) cp) := by rw [← hv]; exact hc k hlt
      have hlk := hl k hlt
      have h1 : decide (k < n) = true := by simp [hlt]
      have hcl := crcP_lt l x hx 4294967295 (by decide) k
      have Hs : Hid (crcP l x 4294967295 (k + 1) = crcS (x k) (crcP l x 4294967295 k) (l k)) := rfl
      have Hx : Hid (∀ i, x k i < 256) := hx k
      have Hby := hide hby
      clear hby hv hp hc hl hx
      generalize crcP l x 4294967295 k = c0 at *
      generalize l k = m at *
      generalize x k = y at *
      go_wp2
      go_loopw [3, 16] (fun c i wr => ∃ q : Nat, q ≤ m ∧ c = .int .u32 (crcS y c0 q : Nat) ∧ i = .int .i64 q ∧ w = wr) (fun _ i _ => m - (intOf i).toNat)
      case atStart => exact ⟨0, Nat.zero_le _, rfl, rfl, rfl⟩
      case round =>
        obtain ⟨q, hq, rfl, rfl, rfl⟩ := hrel
        by_cases hlq : q < m
        · obtain ⟨gp, op, rfl, hcq⟩ := Hby.out q hlq
          have h1 : decide (q < m) = true := by simp [hlq]
          have hl := crcS_lt y Hx.out c0 hcl q
          have hb := Hx.out q
          have hm : ((y q : Int) % 4294967296) = ((y q : Nat) : Int) := by omega
          have hxo : bits BinOp.xor .u32 (crcS y c0 q : Nat) (y q : Nat) = ((crcS y c0 q ^^^ y q : Nat) : Int) := xor32 _ _ hl (by omega)
          have Hq : Hid (crcS y c0 (q + 1) = crcK (crcS y c0 q ^^^ y q) 8) := rfl
          have hz := xor_lt (crcS y c0 q) (y q) hl (by omega)
          go_wp2
          generalize crcS y c0 q ^^^ y q = z at *
          go_loopw [3, 24] (fun c i wr => ∃ j : Nat, j ≤ 8 ∧ c = .int .u32 (crcK z j : Nat) ∧ i = .int .i64 j ∧ w = wr) (fun _ i _ => 8 - (intOf i).toNat)
          case atStart => exact ⟨0, Nat.zero_le _, rfl, rfl, rfl⟩
          case round =>
            obtain ⟨j, hj, rfl, rfl, rfl⟩ := hrel
            have hzl := crcK_lt z hz j
            by_cases hlt : j < 8
            · have h1 : decide (j < 8) = true := by simp [hlt]
              have He : Hid _ := hide (crc1_ok _ hzl)
              go_wp2
              exact ⟨⟨j + 1, by omega, by rw [He.out]; rfl, rfl, trivial⟩, by simp only [intOf]; omega⟩
            · obtain rfl : j = 8 := by omega
              go_wp2
              exact ⟨⟨q + 1, by omega, by rw [Hq.out], rfl, trivial⟩, by simp only [intOf]; omega⟩
        · obtain rfl : q = m := by omega
          have h1 : decide (q < q) = false := by simp
          go_wp2
          exact ⟨⟨k + 1, by omega, by rw [Hs.out], rfl, trivial⟩, by simp only [intOf]; omega⟩
    · obtain rfl : k = n := by omega
      have h1 : decide (k < k) = false := by simp
      have hl := crcP_lt l x hx 4294967295 (by decide) k
      have hxo : bits BinOp.xor .u32 IntKind.u32.max (crcP l x 4294967295 k : Nat) = ((4294967295 ^^^ crcP l x 4294967295 k : Nat) : Int) := xor32 4294967295 _ (by decide) hl
      go_wp2
      go_ret
      exact ⟨rfl, rfl⟩
end Go.Proofs.YtobdajealbhjmaaGreatDoor
