/- Plain laws: the character of a text, told by hand (ref05.Next), as ValidString and Decode tell it. Plain laws: a text that is right, told by hand. -/
import Derived.Test.YtmnmnnocgimcpaaGreatDoorTv
import Derived.Lib.DecodeN
namespace Go.Proofs.YtmnmnnocgimcpaaGreatDoor
open Go.RowKit
/-- the character of a text, told by hand; 0 bytes: none -/
def nxN (n b0 b1 b2 b3 : Nat) : Nat × Nat :=
  if b0 < 128 then (b0, 1)
  else if 194 ≤ b0 ∧ b0 ≤ 223 then (if n < 2 ∨ b1 < 128 ∨ 191 < b1 then (0, 0) else ((b0 - 192) * 64 + (b1 - 128), 2))
  else if 224 ≤ b0 ∧ b0 ≤ 239 then
    (if n < 3 ∨ b1 < 128 ∨ 191 < b1 ∨ b2 < 128 ∨ 191 < b2 ∨ (b0 - 224) * 4096 + (b1 - 128) * 64 + (b2 - 128) < 2048 ∨ (55296 ≤ (b0 - 224) * 4096 + (b1 - 128) * 64 + (b2 - 128) ∧ (b0 - 224) * 4096 + (b1 - 128) * 64 + (b2 - 128) ≤ 57343) then (0, 0)
     else ((b0 - 224) * 4096 + (b1 - 128) * 64 + (b2 - 128), 3))
  else if 240 ≤ b0 ∧ b0 ≤ 244 then
    (if n < 4 ∨ b1 < 128 ∨ 191 < b1 ∨ b2 < 128 ∨ 191 < b2 ∨ b3 < 128 ∨ 191 < b3 ∨ (b0 - 240) * 262144 + (b1 - 128) * 4096 + (b2 - 128) * 64 + (b3 - 128) < 65536 ∨ 1114111 < (b0 - 240) * 262144 + (b1 - 128) * 4096 + (b2 - 128) * 64 + (b3 - 128) then (0, 0)
     else ((b0 - 240) * 262144 + (b1 - 128) * 4096 + (b2 - 128) * 64 + (b3 - 128), 4))
  else (0, 0)
/-- how many bytes ValidString goes on -/
def vnN (n b0 b1 b2 b3 : Nat) : Nat :=
  if b0 < 128 then 1
  else if Lib.firstT b0 % 8 = 2 then (if n < 2 ∨ b1 < Lib.accLo (Lib.firstT b0 / 16) ∨ Lib.accHi (Lib.firstT b0 / 16) < b1 then 0 else 2)
  else if Lib.firstT b0 % 8 = 3 then (if n < 3 ∨ b1 < Lib.accLo (Lib.firstT b0 / 16) ∨ Lib.accHi (Lib.firstT b0 / 16) < b1 ∨ b2 < 128 ∨ 191 < b2 then 0 else 3)
  else if Lib.firstT b0 % 8 = 4 then (if n < 4 ∨ b1 < Lib.accLo (Lib.firstT b0 / 16) ∨ Lib.accHi (Lib.firstT b0 / 16) < b1 ∨ b2 < 128 ∨ 191 < b2 ∨ b3 < 128 ∨ 191 < b3 then 0 else 4)
  else 0
theorem first_C (b : Nat) : Lib.firstT b = 240 ∧ b < 128 ∨ Lib.firstT b = 241 ∧ 128 ≤ b ∧ b < 194 ∨ Lib.firstT b = 2 ∧ 194 ≤ b ∧ b < 224 ∨ Lib.firstT b = 19 ∧ b = 224 ∨ Lib.firstT b = 3 ∧ 225 ≤ b ∧ b < 240 ∧ b ≠ 237 ∨ Lib.firstT b = 35 ∧ b = 237 ∨ Lib.firstT b = 52 ∧ b = 240 ∨ Lib.firstT b = 4 ∧ 241 ≤ b ∧ b < 244 ∨ Lib.firstT b = 68 ∧ b = 244 ∨ Lib.firstT b = 241 ∧ 245 ≤ b := by
  unfold Lib.firstT
  repeat' split
  all_goals omega
theorem if_same {α : Type} {p q : Prop} [Decidable p] [Decidable q] (h : p ↔ q) {a b : α} : (if p then a else b) = if q then a else b := by
  by_cases hp : p
  · rw [if_pos hp, if_pos (h.1 hp)]
  · rw [if_neg hp, if_neg (fun hq => hp (h.2 hq))]
theorem snd_if {p : Prop} [Decidable p] {r k : Nat} : (if p then ((0, 0) : Nat × Nat) else (r, k)).2 = if p then 0 else k := by
  by_cases hp : p
  · rw [if_pos hp, if_pos hp]
  · rw [if_neg hp, if_neg hp]
theorem vn2 {n b0 b1 b2 b3 f lo hi : Nat} (e : Lib.firstT b0 = f) (h0 : ¬ b0 < 128) (h2 : f % 8 = 2) (hl : Lib.accLo (f / 16) = lo) (hh : Lib.accHi (f / 16) = hi) :
    vnN n b0 b1 b2 b3 = if n < 2 ∨ b1 < lo ∨ hi < b1 then 0 else 2 := by
  unfold vnN
  rw [e, if_neg h0, if_pos h2, hl, hh]
theorem vn3 {n b0 b1 b2 b3 f lo hi : Nat} (e : Lib.firstT b0 = f) (h0 : ¬ b0 < 128) (h2 : f % 8 = 3) (hl : Lib.accLo (f / 16) = lo) (hh : Lib.accHi (f / 16) = hi) :
    vnN n b0 b1 b2 b3 = if n < 3 ∨ b1 < lo ∨ hi < b1 ∨ b2 < 128 ∨ 191 < b2 then 0 else 3 := by
  unfold vnN
  rw [e, if_neg h0, if_neg (by omega), if_pos h2, hl, hh]
theorem vn4 {n b0 b1 b2 b3 f lo hi : Nat} (e : Lib.firstT b0 = f) (h0 : ¬ b0 < 128) (h2 : f % 8 = 4) (hl : Lib.accLo (f / 16) = lo) (hh : Lib.accHi (f / 16) = hi) :
    vnN n b0 b1 b2 b3 = if n < 4 ∨ b1 < lo ∨ hi < b1 ∨ b2 < 128 ∨ 191 < b2 ∨ b3 < 128 ∨ 191 < b3 then 0 else 4 := by
  unfold vnN
  rw [e, if_neg h0, if_neg (by omega), if_neg (by omega), if_pos h2, hl, hh]
theorem vn0 {n b0 b1 b2 b3 : Nat} (e : Lib.firstT b0 = 241) (h0 : ¬ b0 < 128) : vnN n b0 b1 b2 b3 = 0 := by
  unfold vnN
  rw [e, if_neg h0, if_neg (by decide), if_neg (by decide), if_neg (by decide)]
theorem nx3 {n b0 b1 b2 b3 : Nat} (h : 224 ≤ b0 ∧ b0 ≤ 239) : nxN n b0 b1 b2 b3 = if n < 3 ∨ b1 < 128 ∨ 191 < b1 ∨ b2 < 128 ∨ 191 < b2 ∨ (b0 - 224) * 4096 + (b1 - 128) * 64 + (b2 - 128) < 2048 ∨ (55296 ≤ (b0 - 224) * 4096 + (b1 - 128) * 64 + (b2 - 128) ∧ (b0 - 224) * 4096 + (b1 - 128) * 64 + (b2 - 128) ≤ 57343) then (0, 0)
     else ((b0 - 224) * 4096 + (b1 - 128) * 64 + (b2 - 128), 3) := by
  unfold nxN
  rw [if_neg (by omega), if_neg (by omega), if_pos h]
theorem nx4 {n b0 b1 b2 b3 : Nat} (h : 240 ≤ b0 ∧ b0 ≤ 244) : nxN n b0 b1 b2 b3 = if n < 4 ∨ b1 < 128 ∨ 191 < b1 ∨ b2 < 128 ∨ 191 < b2 ∨ b3 < 128 ∨ 191 < b3 ∨ (b0 - 240) * 262144 + (b1 - 128) * 4096 + (b2 - 128) * 64 + (b3 - 128) < 65536 ∨ 1114111 < (b0 - 240) * 262144 + (b1 - 128) * 4096 + (b2 - 128) * 64 + (b3 - 128) then (0, 0)
     else ((b0 - 240) * 262144 + (b1 - 128) * 4096 + (b2 - 128) * 64 + (b3 - 128), 4) := by
  unfold nxN
  rw [if_neg (by omega), if_neg (by omega), if_neg (by omega), if_pos h]
theorem nx2 {n b0 b1 b2 b3 : Nat} (h : 194 ≤ b0 ∧ b0 ≤ 223) : nxN n b0 b1 b2 b3 = if n < 2 ∨ b1 < 128 ∨ 191 < b1 then (0, 0) else ((b0 - 192) * 64 + (b1 - 128), 2) := by
  unfold nxN
  rw [if_neg (by omega), if_pos h]
theorem nx0 {n b0 b1 b2 b3 : Nat} (h0 : ¬ b0 < 128) (h : b0 < 194 ∨ 245 ≤ b0) : nxN n b0 b1 b2 b3 = (0, 0) := by
  unfold nxN
  rw [if_neg h0, if_neg (by omega), if_neg (by omega), if_neg (by omega)]
theorem nx1 {n b0 b1 b2 b3 : Nat} (h : b0 < 128) : nxN n b0 b1 b2 b3 = (b0, 1) := by
  unfold nxN
  rw [if_pos h]
theorem nx_vn (n b0 b1 b2 b3 : Nat) : (nxN n b0 b1 b2 b3).2 = vnN n b0 b1 b2 b3 := by
  rcases first_C b0 with ⟨e, h⟩ | ⟨e, h⟩ | ⟨e, h⟩ | ⟨e, h⟩ | ⟨e, h⟩ | ⟨e, h⟩ | ⟨e, h⟩ | ⟨e, h⟩ | ⟨e, h⟩ | ⟨e, h⟩
  · rw [nx1 h]; unfold vnN; rw [if_pos h]
  · rw [nx0 (by omega) (by omega), vn0 e (by omega)]
  · rw [nx2 (by omega), snd_if, vn2 e (by omega) (by decide) (lo := 128) (hi := 191) rfl rfl]
  · rw [nx3 (by omega), snd_if, vn3 e (by omega) (by decide) (lo := 160) (hi := 191) rfl rfl]
    subst h
    exact if_same (by omega)
  · rw [nx3 (by omega), snd_if, vn3 e (by omega) (by decide) (lo := 128) (hi := 191) rfl rfl]
    exact if_same (by omega)
  · rw [nx3 (by omega), snd_if, vn3 e (by omega) (by decide) (lo := 128) (hi := 159) rfl rfl]
    subst h
    exact if_same (by omega)
  · rw [nx4 (by omega), snd_if, vn4 e (by omega) (by decide) (lo := 144) (hi := 191) rfl rfl]
    subst h
    exact if_same (by omega)
  · rw [nx4 (by omega), snd_if, vn4 e (by omega) (by decide) (lo := 128) (hi := 191) rfl rfl]
    exact if_same (by omega)
  · rw [nx4 (by omega), snd_if, vn4 e (by omega) (by decide) (lo := 128) (hi := 143) rfl rfl]
    subst h
    exact if_same (by omega)
  · rw [nx0 (by omega) (by omega), vn0 e (by omega)]
theorem if_no0 {p : Prop} [Decidable p] {r k : Nat} (h : (if p then ((0, 0) : Nat × Nat) else (r, k)).2 ≠ 0) : ¬ p := by
  intro hp
  rw [if_pos hp] at h
  exact h rfl
theorem nx_dec (n b0 b1 b2 b3 : Nat) (h : (nxN n b0 b1 b2 b3).2 ≠ 0) : nxN n b0 b1 b2 b3 = Lib.decodeN n b0 b1 b2 b3 := by
  by_cases c1 : b0 < 128
  · rw [nx1 c1]; unfold Lib.decodeN; rw [if_pos c1]
  by_cases c0 : b0 < 194 ∨ 245 ≤ b0
  · rw [nx0 c1 c0] at h; exact absurd rfl h
  by_cases c2 : b0 ≤ 223
  · rw [nx2 (by omega)] at h ⊢
    have hp := if_no0 h
    clear h
    rw [if_neg hp]
    unfold Lib.decodeN
    rw [if_neg c1, if_pos (by omega), if_pos (by omega)]
    have e1 : b0 % 32 = b0 - 192 := by omega
    have e2 : b1 % 64 = b1 - 128 := by omega
    rw [e1, e2]
  by_cases c3 : b0 ≤ 239
  · rw [nx3 (by omega)] at h ⊢
    have hp := if_no0 h
    clear h
    rw [if_neg hp]
    have e1 : b0 % 16 = b0 - 224 := by omega
    have e2 : b1 % 64 = b1 - 128 := by omega
    have e3 : b2 % 64 = b2 - 128 := by omega
    have d1 : b1 / 64 = 2 := by omega
    have d2 : b2 / 64 = 2 := by omega
    unfold Lib.decodeN
    rw [e1, e2, e3, if_neg c1, if_neg (by omega), if_pos (by omega), if_pos (by omega)]
  · rw [nx4 (by omega)] at h ⊢
    have hp := if_no0 h
    clear h
    rw [if_neg hp]
    have e1 : b0 % 8 = b0 - 240 := by omega
    have e2 : b1 % 64 = b1 - 128 := by omega
    have e3 : b2 % 64 = b2 - 128 := by omega
    have e4 : b3 % 64 = b3 - 128 := by omega
    have d1 : b1 / 64 = 2 := by omega
    have d2 : b2 / 64 = 2 := by omega
    have d3 : b3 / 64 = 2 := by omega
    unfold Lib.decodeN
    rw [e2, e3, e4, e1, if_neg c1, if_neg (by omega), if_neg (by omega), if_pos (by omega), if_pos (by omega)]
/-- is a rune one of texts, told by hand? -/
def rchr (r : Nat) : Bool := decide (r = 9) || (decide (r = 10) || (decide (r = 13) || ((decide (32 ≤ r) && decide (r ≤ 55295)) || ((decide (57344 ≤ r) && decide (r ≤ 65533)) || (decide (65536 ≤ r) && decide (r ≤ 1114111))))))
/-- the character at a place -/
def nxt (s : ByteArray) (k : Nat) : Nat × Nat := nxN (s.size - k) (bt s k).toNat (bt s (k + 1)).toNat (bt s (k + 2)).toNat (bt s (k + 3)).toNat
theorem get_bt (s : ByteArray) (k : Nat) : (s.get! k).toNat = (bt s k).toNat := by
  unfold bt
  rw [Int.toNat_natCast]
  show (s.data[k]!).toNat = _
  rw [getElem!_def]
  cases s.data[k]? <;> rfl
theorem nxt_dec (s : ByteArray) (k : Nat) (_hk : k < s.size) (h : (nxt s k).2 ≠ 0) : nxt s k = Utf8.decode s k := by
  rw [Lib.decode_at, get_bt, get_bt, get_bt, get_bt]
  exact nx_dec _ _ _ _ _ h
theorem vnum_vn (t : ByteArray) : vnum t = vnN t.size (bt t 0).toNat (bt t 1).toNat (bt t 2).toNat (bt t 3).toNat := by
  obtain ⟨n0, l0, e0⟩ := bt_nat t 0
  obtain ⟨n1, l1, e1⟩ := bt_nat t 1
  obtain ⟨n2, l2, e2⟩ := bt_nat t 2
  obtain ⟨n3, l3, e3⟩ := bt_nat t 3
  unfold vnum vnN
  rw [e0, e1, e2, e3]
  simp only [Int.toNat_natCast]
  repeat' split
  all_goals first | rfl | omega
theorem nxt_vnum (s : ByteArray) (k : Nat) (_hk : k < s.size) : (nxt s k).2 = vnum (s.extract k s.size) := by
  rw [vnum_vn, bt_ext, bt_ext, bt_ext, bt_ext, ext_size]
  exact nx_vn _ _ _ _ _
end Go.Proofs.YtmnmnnocgimcpaaGreatDoor
namespace Go.Proofs.YtmnmnnocgimcpaaGreatDoor
open Go.RowKit
/-- is a text right, told by hand? -/
def rTf (s : ByteArray) : Nat → Nat → Bool
  | 0, _ => true
  | n + 1, k => if k < s.size then (if (nxt s k).2 = 0 then false else (rchr (nxt s k).1 && rTf s n (k + (nxt s k).2))) else true
theorem rTf_fuel (s : ByteArray) : ∀ (n m k : Nat), s.size ≤ k + n → s.size ≤ k + m → rTf s n k = rTf s m k
  | 0, 0, _, _, _ => rfl
  | 0, m + 1, k, h, _ => by unfold rTf; rw [if_neg (by omega)]
  | n + 1, 0, k, _, h => by unfold rTf; rw [if_neg (by omega)]
  | n + 1, m + 1, k, h1, h2 => by
    unfold rTf
    by_cases hk : k < s.size
    · rw [if_pos hk, if_pos hk]
      by_cases h0 : (nxt s k).2 = 0
      · rw [if_pos h0, if_pos h0]
      · rw [if_neg h0, if_neg h0, rTf_fuel s n m _ (by omega) (by omega)]
    · rw [if_neg hk, if_neg hk]
theorem rT_no (s : ByteArray) (k : Nat) (hk : k < s.size) (h : (nxt s k).2 = 0) : rTf s s.size k = false := by
  obtain ⟨n, hn⟩ : ∃ n, n = s.size := ⟨_, rfl⟩
  rw [← hn]
  match n with
  | 0 => omega
  | n + 1 => unfold rTf; rw [if_pos hk, if_pos h]
theorem rT_step (s : ByteArray) (k : Nat) (hk : k < s.size) (h : (nxt s k).2 ≠ 0) : rTf s s.size k = (rchr (nxt s k).1 && rTf s s.size (k + (nxt s k).2)) := by
  rw [rTf_fuel s s.size (s.size + 1) k (by omega) (by omega)]
  conv => lhs; unfold rTf
  rw [if_pos hk, if_neg h]
theorem rT_end (s : ByteArray) (k : Nat) (h : ¬ k < s.size) : rTf s s.size k = true := by
  obtain ⟨n, hn⟩ : ∃ n, n = s.size := ⟨_, rfl⟩
  rw [← hn]
  match n with
  | 0 => rfl
  | n + 1 => unfold rTf; rw [if_neg h]
theorem vnN_le (n b0 b1 b2 b3 : Nat) : vnN n b0 b1 b2 b3 ≤ 4 := by
  unfold vnN
  repeat' split
  all_goals omega
theorem nxt_le (s : ByteArray) (k : Nat) : (nxt s k).2 ≤ 4 := by
  unfold nxt
  rw [nx_vn]
  exact vnN_le _ _ _ _ _
end Go.Proofs.YtmnmnnocgimcpaaGreatDoor
